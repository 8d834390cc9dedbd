/- RoomsOk of the program: a map of the stations that are taken, in closed form. -/
import Derived.Test.YteggnboikjjaiaaPl
import Derived.Maps.OwnOps
import Derived.Maps.Views
import Derived.Carry
namespace Go.Proofs.Yteggnboikjjaiaa.Rm
open Go Go.RowKit Go.Maps Go.Proofs.YteggnboikjjaiaaW.PrintWords Go.Proofs.Yteggnboikjjaiaa.Hp Go.Proofs.Yteggnboikjjaiaa.Pl Go.Proofs.Yteggnboikjjaiaa.Cf
set_option linter.unusedVariables false
set_option linter.unusedSimpArgs false

theorem law3 : Keyed Try.prog 3 := int_keyed Try.underlying3
theorem zero4 (w : World) : (zeroValue 4).run Try.prog w = .ok (.bool false) w := by kernel_rfl
/-- An element that reads as a bool's datum is that bool. -/
theorem plainElem_bool_inv {H : Type} {P : Program} {e : TypeId} (he : P.underlying e = some .bool) {v : Value} {z : DataW H × List MemPlace} (h : plainElem P e v = some z) : ∃ c, v = .bool c ∧ z = (.lit (.bool c), []) := by
  unfold plainElem at h
  rw [he] at h
  cases v with
  | bool c =>
    simp only [Option.some.injEq] at h
    exact ⟨c, rfl, h.symm⟩
  | _ => simp at h
theorem lookup_bool {H : Type} {w : World} {b n : Nat} {D : DataW H} (h : w.ownsMap Try.prog 3 (plainElem Try.prog 4) b n D) (s : Int) (hs : (Lit.int .i64 s).wf = true) (c : Bool) (hc : D.atKey (.int .i64 s) (.lit (.bool false)) = .lit (.bool c)) :
    (Instr.lookup 87 (.map (some b)) (.int .i64 s) false).run Try.prog w = .ok (.bool c) w := by
  obtain ⟨v, ps, hrun, hv⟩ := h.lookup law3 Try.underlying87 (zero4 w) (plainElem_bool Try.underlying4 false) (keyOf_int_mk Try.underlying3 hs)
  obtain ⟨c', rfl, hz⟩ := plainElem_bool_inv Try.underlying4 hv
  rw [hc] at hz
  simp only [Prod.mk.injEq, DataW.lit.injEq, Lit.bool.injEq] at hz
  rw [hz.1]
  exact hrun

/-! ### What it answers -/
def okRoom (n a b p : Int) : Bool := decide (0 ≤ a) && decide (a ≤ b) && decide (b < n) && (decide (0 ≤ p) && decide (p ≤ 100))
def covB (q : List (Int × Int)) (s : Int) : Bool := q.any fun x => decide (x.1 ≤ s) && decide (s ≤ x.2)
def meets (q : List (Int × Int)) (a b : Int) : Bool := q.any fun x => decide (x.1 ≤ b) && decide (a ≤ x.2)
def roomsFrom (n : Int) : List (Int × Int) → List (Int × Int × Int) → Bool
  | _, [] => true
  | q, x :: t => okRoom n x.1 x.2.1 x.2.2 && (!(meets q x.1 x.2.1) && roomsFrom n (q ++ [(x.1, x.2.1)]) t)
theorem meets_of_cov {q : List (Int × Int)} {a b s : Int} (h : covB q s = true) (h0 : a ≤ s) (h1 : s ≤ b) : meets q a b = true := by
  unfold covB at h
  unfold meets
  obtain ⟨x, hx, h⟩ := List.any_eq_true.1 h
  refine List.any_eq_true.2 ⟨x, hx, ?_⟩
  simp only [Bool.and_eq_true, decide_eq_true_eq] at h ⊢
  omega
theorem cov_of_meets {q : List (Int × Int)} {a b : Int} (hq : ∀ x ∈ q, x.1 ≤ x.2) (hab : a ≤ b) (h : meets q a b = true) : ∃ s, a ≤ s ∧ s ≤ b ∧ covB q s = true := by
  unfold meets at h
  obtain ⟨x, hx, h⟩ := List.any_eq_true.1 h
  have := hq x hx
  simp only [Bool.and_eq_true, decide_eq_true_eq] at h
  refine ⟨if a ≤ x.1 then x.1 else a, by split <;> omega, by split <;> omega, ?_⟩
  unfold covB
  refine List.any_eq_true.2 ⟨x, hx, ?_⟩
  simp only [Bool.and_eq_true, decide_eq_true_eq]
  split <;> omega
theorem cov_snoc (q : List (Int × Int)) (a b s : Int) : covB (q ++ [(a, b)]) s = (covB q s || (decide (a ≤ s) && decide (s ≤ b))) := by
  unfold covB
  simp

theorem cov_step (q : List (Int × Int)) (a z : Int) (j : Nat) : covB (q ++ [(a, a + ((j + 1 : Nat) : Int) - 1)]) z = (covB (q ++ [(a, a + (j : Int) - 1)]) z || decide (z = a + (j : Int))) := by
  rw [cov_snoc, cov_snoc, Bool.or_assoc]
  have : (decide (a ≤ z) && decide (z ≤ a + ((j + 1 : Nat) : Int) - 1)) = (decide (a ≤ z) && decide (z ≤ a + (j : Int) - 1) || decide (z = a + (j : Int))) := by
    rw [Bool.eq_iff_iff]
    simp only [Bool.or_eq_true, Bool.and_eq_true, decide_eq_true_eq]
    omega
  rw [this]

/-- What the map holds: the stations of the rooms q. -/
structure Taken (w : World) (B n : Nat) (q : List (Int × Int)) : Prop where
  mk ::
  out : ∃ D : DataW Unit, w.ownsMap Try.prog 3 (plainElem Try.prog 4) B n D ∧ (∃ es, D = .map es) ∧ ∀ s : Int, D.atKey (.int .i64 s) (.lit (.bool false)) = .lit (.bool (covB q s))
theorem Taken.run {w : World} {B n : Nat} {q : List (Int × Int)} (h : Taken w B n q) (s : Int) (hs : (Lit.int .i64 s).wf = true) : (Instr.lookup 87 (.map (some B)) (.int .i64 s) false).run Try.prog w = .ok (.bool (covB q s)) w := by
  obtain ⟨D, hown, _, hat⟩ := h.out
  exact lookup_bool hown s hs _ (hat s)
theorem Taken.alloc {w : World} {B n : Nat} {q : List (Int × Int)} (h : Taken w B n q) (o : Obj) : Taken (w.alloc o) B n q := by
  obtain ⟨D, hown, hm, hat⟩ := h.out
  exact ⟨D, hown.alloc o, hm, hat⟩
theorem Taken.put {w1 : World} {B n : Nat} {q q' : List (Int × Int)} {D : DataW Unit} {s : Int} (hm : ∃ es, D = .map es) (hat : ∀ s : Int, D.atKey (.int .i64 s) (.lit (.bool false)) = .lit (.bool (covB q s)))
    (hown : w1.ownsMap Try.prog 3 (plainElem Try.prog 4) B (n + 1) (D.put (.int .i64 s) (.lit (.bool true)))) (hq : ∀ z, covB q' z = (covB q z || decide (z = s))) : Taken w1 B (n + 1) q' := by
  refine ⟨_, hown, ?_, fun z => ?_⟩
  · obtain ⟨es, rfl⟩ := hm
    exact ⟨_, rfl⟩
  · rw [hq]
    by_cases h : z = s
    · subst h
      rw [atKey_put_same hm (by trivial)]
      simp
    · rw [atKey_put_other (by intro e; injection e with _ e; exact h e), hat]
      simp [h]
end Go.Proofs.Yteggnboikjjaiaa.Rm
namespace Go.Proofs.Yteggnboikjjaiaa.Rm
open Go Go.RowKit Go.Maps Go.Proofs.YteggnboikjjaiaaW.PrintWords Go.Proofs.Yteggnboikjjaiaa.Hp Go.Proofs.Yteggnboikjjaiaa.Pl Go.Proofs.Yteggnboikjjaiaa.Cf
set_option linter.unusedVariables false
set_option linter.unusedSimpArgs false
theorem Taken.below_size {w : World} {B n : Nat} {q : List (Int × Int)} (h : Taken w B n q) : B < w.heap.size := by
  obtain ⟨D, hown, _⟩ := h.out
  exact hown.lt
theorem Taken.congr {w : World} {B n : Nat} {q q' : List (Int × Int)} (h : Taken w B n q) (e : ∀ z, covB q' z = covB q z) : Taken w B n q' := by
  obtain ⟨D, hown, hm, hat⟩ := h.out
  exact ⟨⟨D, hown, hm, fun z => by rw [hat z, e z]⟩⟩
theorem wf_small {x : Int} (h0 : -1000000 ≤ x) (h1 : x ≤ 1000000) : (Lit.int .i64 x).wf = true := by
  simp [Lit.wf, IntKind.min, IntKind.max, IntKind.signed, IntKind.bits]
  omega
theorem taken_made (w : World) : Taken (w.alloc (.map #[] 0)) w.heap.size 0 [] :=
  ⟨⟨_, World.ownsMap_made _ _ _ _, ⟨[], rfl⟩, fun s => by rfl⟩⟩
structure Rooms {α : Type} [Inhabited α] (f0 f1 f2 : α → Int) (A : Option Addr) (zs : List α) (w : World) : Prop where
  mk ::
  out : ∀ j, j < zs.length → ∃ ad, A = some ad ∧ w.cell? (ad.add (j * 3)) = some (.int .i64 (f0 zs[j]!)) ∧ w.cell? ⟨(ad.add (j * 3)).block, (ad.add (j * 3)).off + 1, none⟩ = some (.int .i64 (f1 zs[j]!)) ∧ w.cell? ⟨(ad.add (j * 3)).block, (ad.add (j * 3)).off + 2, none⟩ = some (.int .i64 (f2 zs[j]!))
theorem Rooms.below {α : Type} [Inhabited α] {f0 f1 f2 : α → Int} {A : Option Addr} {zs : List α} {w w1 : World} (h : Rooms f0 f1 f2 A zs w) (hb : Below w.heap.size w w1) : Rooms f0 f1 f2 A zs w1 :=
  ⟨fun j hj => by
    obtain ⟨ad, e, h0, h1, h2⟩ := h.out j hj
    exact ⟨ad, e, pw_cell_below hb h0, pw_cell_below hb h1, pw_cell_below hb h2⟩⟩
theorem add_at (ad : Addr) (n i : Nat) : ad.add (n + (i + 1)) = ⟨(ad.add n).block, (ad.add n).off + (i + 1), none⟩ := by
  unfold Addr.add
  rw [if_neg (by omega)]
  split
  · simp only [*, Nat.zero_add]
  · simp only [Nat.add_assoc]
def triples {α : Type} (f0 f1 f2 : α → Int) (zs : List α) : List (Int × Int × Int) := zs.map fun x => (f0 x, f1 x, f2 x)
def pairs {α : Type} (f0 f1 : α → Int) (zs : List α) : List (Int × Int) := zs.map fun x => (f0 x, f1 x)
theorem pairs_len {α : Type} (f0 f1 : α → Int) (zs : List α) : (pairs f0 f1 zs).length = zs.length := by simp [pairs]
set_option maxHeartbeats 4000000 in
theorem rooms_any {α : Type} [Inhabited α] (f0 f1 f2 : α → Int) (s r : Int) (A0 : Option Addr) (c0 : Nat) (l : List (List Int)) (A : Option Addr) (c : Nat) (zs : List α) (w : World) (hr0 : Kd.C (Kd.slice 3 (Kd.int .i64)) w A0 l.length l) (hc0 : l.length ≤ c0)
    (hr : Rooms f0 f1 f2 A zs w) (hbig : zs.length ≤ 9223372036854775807) :
    Calls Try.prog 49 #[.agg #[.int .i64 s, .int .i64 r, .slice A0 l.length c0], .slice A zs.length c] w
      fun e w' => e = .returned (.bool (okHull s r l && (decide ((zs.length : Int) ≤ 8) && roomsFrom l.length [] (triples f0 f1 f2 zs)))) ∧ Below w.heap.size w w' := by
  have hl := hr0.2.1
  have hb1 : Below w.heap.size w (w.alloc (.cells #[.int .i64 s, .int .i64 r, .slice A0 l.length c0] 39)) := (Below.refl _ _).alloc (Nat.le_refl _) _
  have hcall := hull_any s r A0 c0 l _ (Kd.C_below hr0 hb1) hc0
  have HB := Aside0.mk hb1
  have HR := Aside0.mk (hr.below hb1)
  clear hr hb1 hr0
  cases ho : okHull s r l
  · rw [ho] at hcall
    go_enter Try.func49, Try.ntmps49
    go_wp2_with fail
    refine hcall.mono ?_
    rintro e w1 ⟨rfl, hb2⟩
    have HB2 := Aside0.mk (HB.out.trans (hb2.mono HB.out.size))
    clear hb2 HR hcall
    go_wp2
    go_ret
    exact ⟨by simp, HB2.out⟩
  · rw [ho] at hcall
    by_cases h8 : (zs.length : Int) ≤ 8
    · have hd : decide ((zs.length : Int) > 8) = false := decide_eq_false (by omega)
      have hd2 : decide (8 < zs.length) = false := decide_eq_false (by omega)
      have hmm := @run_makeMap Try.prog
      rw [decide_eq_true h8]
      have H8 := Aside0.mk h8
      have HO := Aside0.mk ho
      clear h8 ho
      go_enter Try.func49, Try.ntmps49
      go_wp2_with fail
      refine hcall.mono ?_
      rintro e w1 ⟨rfl, hb2⟩
      have hz : w.heap.size < (w.alloc (.cells #[.int .i64 s, .int .i64 r, .slice A0 l.length c0] 39)).heap.size := by simp
      have HZ := Aside0.mk (And.intro (Nat.lt_of_lt_of_le hz hb2.size) ((hb2.cell (p := ⟨w.heap.size, 2, none⟩) hz).trans (show (w.alloc (.cells #[.int .i64 s, .int .i64 r, .slice A0 l.length c0] 39)).cell? ⟨w.heap.size, 2, none⟩ = some (.slice A0 l.length c0) by go_simp)))
      have HRW := Aside0.mk (HR.out.below hb2)
      have HB2 := Aside0.mk (HB.out.trans (hb2.mono HB.out.size))
      clear hb2 HR hcall hz HB
      have HB3 := Aside0.mk (Nat.le_trans HB2.out.size (Nat.le_refl _))
      have HL := Aside0.mk hl
      clear hl
      go_wp2
      go_loopw [20] (fun s20 wr => ∃ kk cnt : Nat, kk ≤ zs.length ∧ s20 = .int .i64 kk ∧ Aside0 (Below w1.heap.size w1 wr) ∧ Aside0 (Taken wr w1.heap.size cnt ((pairs f0 f1 zs).take kk)) ∧ Aside0 (cnt ≤ 100000 * kk) ∧ Aside0 (∀ q ∈ (pairs f0 f1 zs).take kk, q.1 ≤ q.2) ∧ Aside0 (roomsFrom l.length ((pairs f0 f1 zs).take kk) ((triples f0 f1 f2 zs).drop kk) = roomsFrom l.length [] (triples f0 f1 f2 zs))) (fun i _ => zs.length - (RowKit.intOf i).toNat)
      case atStart => exact ⟨0, 0, Nat.zero_le _, rfl, ⟨(Below.refl _ _).alloc (Nat.le_refl _) _⟩, ⟨taken_made _⟩, ⟨Nat.le_refl _⟩, ⟨fun q hq => by simp at hq⟩, ⟨rfl⟩⟩
      case round =>
        obtain ⟨kk, cnt, hkk, rfl, BW, TK, CN, VL, RQ⟩ := hrel
        by_cases hlt : kk < zs.length
        · have hdk : decide ((kk : Int) < (zs.length : Int)) = true := decide_eq_true (by omega)
          have hdk2 : decide (kk < zs.length) = true := decide_eq_true hlt
          obtain ⟨ad, rfl, x0, x1, x2⟩ := (HRW.out.below BW.out).out kk hlt
          have e0 : (triples f0 f1 f2 zs).drop kk = (f0 zs[kk]!, f1 zs[kk]!, f2 zs[kk]!) :: (triples f0 f1 f2 zs).drop (kk + 1) := by
            have : kk < (triples f0 f1 f2 zs).length := by simp [triples]; exact hlt
            rw [List.drop_eq_getElem_cons this]
            simp [triples, hlt]
          have e1 : (pairs f0 f1 zs).take (kk + 1) = (pairs f0 f1 zs).take kk ++ [(f0 zs[kk]!, f1 zs[kk]!)] := by
            have : kk < (pairs f0 f1 zs).length := by simp [pairs]; exact hlt
            rw [List.take_succ_eq_append_getElem this]
            simp [pairs, hlt]
          have E0 := Aside0.mk e0
          have E1 := Aside0.mk e1
          clear e0 e1
          have hz2 : wr.cell? ⟨w.heap.size, 2, none⟩ = some (.slice A0 l.length c0) := (BW.out.cell (p := ⟨w.heap.size, 2, none⟩) HZ.out.1).trans HZ.out.2
          have hlt2 : w.heap.size < wr.heap.size := Nat.lt_of_lt_of_le HZ.out.1 BW.out.size
          generalize f0 zs[kk]! = a at x0 E0 E1
          generalize f1 zs[kk]! = b at x1 E0 E1
          generalize f2 zs[kk]! = p at x2 E0
          by_cases hv : okRoom l.length a b p = true
          · have hv2 := hv
            unfold okRoom at hv2
            simp only [Bool.and_eq_true, decide_eq_true_eq] at hv2
            have d1 : decide (a < 0) = false := decide_eq_false (by omega)
            have d2 : decide (b < a) = false := decide_eq_false (by omega)
            have d3 : decide ((l.length : Int) ≤ b) = false := decide_eq_false (by omega)
            have hin : ∀ W : World, Calls Try.prog 61 #[.int .i64 p, .int .i64 0, .int .i64 100] W fun e w' => e = .returned (.bool true) ∧ w' = W := fun W => by
              have := in_any p 0 100 W
              have e : (decide (0 ≤ p) && decide (p ≤ 100)) = true := by simp [hv2]
              rw [e] at this
              exact this
            have HV := Aside0.mk hv
            have HV2 := Aside0.mk hv2
            clear hv hv2
            go_wp2_with fail
            refine (hin _).mono ?_
            rintro e w2 ⟨rfl, rfl⟩
            obtain ⟨q, hq⟩ : ∃ q, (pairs f0 f1 zs).take kk = q := ⟨_, rfl⟩
            rw [hq] at TK VL RQ E1
            clear hq
            have HL12 := (okHull_len HO.out).1.2
            have hB0 : Below w1.heap.size w1 (wr.alloc (.cells #[.int .i64 a, .int .i64 b, .int .i64 p] 84)) := BW.out.alloc BW.out.size _
            have hX0 : (wr.alloc (.cells #[.int .i64 a, .int .i64 b, .int .i64 p] 84)).heap[wr.heap.size]? = some (.cells #[.int .i64 a, .int .i64 b, .int .i64 p] 84 (0, 0)) := heap_alloc_new _ _
            have HB0 := Aside0.mk hB0
            have HX0 := Aside0.mk hX0
            have HG := Aside0.mk (show w1.heap.size ≠ wr.heap.size from Nat.ne_of_lt (Nat.lt_of_lt_of_le TK.out.below_size (Nat.le_refl _)))
            have HG2 := Aside0.mk (show w.heap.size < wr.heap.size from hlt2)
            clear hB0 hX0 hlt2 hin
            go_wp2
            obtain ⟨wo, hwo⟩ : ∃ wo : World, wo = wr := ⟨_, rfl⟩
            subst hwo
            go_loopw [8] (fun s8 wi => ∃ j cnt2 : Nat, a + (j : Int) ≤ b + 1 ∧ s8 = .int .i64 (a + (j : Int)) ∧ Aside0 (Below w1.heap.size w1 wi) ∧ Aside0 (Taken wi w1.heap.size cnt2 (q ++ [(a, a + (j : Int) - 1)])) ∧ Aside0 (cnt2 ≤ cnt + j) ∧ Aside0 (wi.heap[wo.heap.size]? = some (.cells #[.int .i64 a, .int .i64 b, .int .i64 p] 84 (0, 0))) ∧ Aside0 (∀ z, a ≤ z → z < a + (j : Int) → covB q z = false)) (fun i _ => (b + 1 - RowKit.intOf i).toNat)
            case atStart =>
              refine ⟨0, cnt, by have := HV2.out; omega, by simp, HB0, ⟨(TK.out.alloc _).congr (fun z => ?_)⟩, ⟨Nat.le_refl _⟩, HX0, ⟨fun z h0 h1 => by omega⟩⟩
              rw [cov_snoc]
              have : (decide (a ≤ z) && decide (z ≤ a + ((0 : Nat) : Int) - 1)) = false := by rw [← Bool.decide_and]; exact decide_eq_false (by omega)
              rw [this, Bool.or_false]
            case round =>
              obtain ⟨j, cnt2, hj, rfl, BI, TI, CI, XI, NI⟩ := hrel
              have bx1 : wr.cell? ⟨wo.heap.size, 1, none⟩ = some (.int .i64 b) := (blk_cell XI.out 1).trans rfl
              by_cases hlt3 : a + (j : Int) ≤ b
              · have d4 : decide (a + (j : Int) ≤ b) = true := decide_eq_true hlt3
                have hrun := TI.out.run (a + (j : Int)) (wf_small (by have := HV2.out; omega) (by have := HV2.out; omega))
                have e2 : covB (q ++ [(a, a + (j : Int) - 1)]) (a + (j : Int)) = covB q (a + (j : Int)) := by
                  rw [cov_snoc]
                  have : (decide (a ≤ a + (j : Int)) && decide (a + (j : Int) ≤ a + (j : Int) - 1)) = false := by rw [← Bool.decide_and]; exact decide_eq_false (by omega)
                  rw [this, Bool.or_false]
                rw [e2] at hrun
                clear e2
                cases hc : covB q (a + (j : Int))
                · rw [hc] at hrun
                  have HC := Aside0.mk hc
                  clear hc
                  have hm : wrap64 (a + (j : Int) + 1) = a + (j : Int) + 1 := by
                    have := HV2.out
                    unfold wrap64
                    omega
                  obtain ⟨D, hown, hmm2, hat⟩ := TI.out.out
                  have HAT := Aside0.mk (And.intro hmm2 hat)
                  have hbound : cnt2 + 1 ≤ 1000000 := by
                    have := CI.out; have := CN.out; have := HV2.out; have := hkk; have := H8.out
                    omega
                  clear hat hmm2
                  have HM := Aside0.mk hm
                  go_wp2_with (at_mapUpdate; refine wpList_mapUpdate_own _ rfl _ _ _ 87 rfl 3 4 law3 Try.underlying87 _ w1.heap.size cnt2 _ rfl hown (by unfold maxLen; omega) _ _ _ rfl rfl (keyOf_int_mk Try.underlying3 (wf_small (by have := HV2.out; omega) (by have := HV2.out; omega))) _ [] (plainElem_bool Try.underlying4 true) ?_)
                  intro w3 hown3 hg3
                  have BI3 : Aside0 (Below w1.heap.size w1 w3) := ⟨Below.grown BI.out hg3 (by have := BI.out.size; omega) (fun k hk => by cases hk; exact Nat.le_refl _)⟩
                  have XI3 : Aside0 (w3.heap[wo.heap.size]? = some (.cells #[.int .i64 a, .int .i64 b, .int .i64 p] 84 (0, 0))) := ⟨blk_grown XI.out hg3 (fun e => HG.out (Option.some.inj e).symm)⟩
                  have TI3 : Aside0 (Taken w3 w1.heap.size (cnt2 + 1) (q ++ [(a, a + ((j + 1 : Nat) : Int) - 1)])) := ⟨Taken.put HAT.out.1 HAT.out.2 hown3 (fun z => by
                    exact cov_step q a z j)⟩
                  clear hown hown3 hg3
                  go_wp2
                  refine ⟨⟨j + 1, cnt2 + 1, by omega, ?_, BI3, TI3, ⟨by have := CI.out; omega⟩, XI3, ⟨fun z h0 h1 => ?_⟩⟩, ?_⟩
                  · rw [HM.out]
                    push_cast
                    rw [Int.add_assoc]
                  · by_cases hz : z < a + (j : Int)
                    · exact NI.out z h0 hz
                    · have : z = a + (j : Int) := by omega
                      rw [this]
                      exact HC.out
                  · simp only [RowKit.intOf]
                    rw [HM.out]
                    omega
                · rw [hc] at hrun
                  have HF : Aside0 (roomsFrom l.length [] (triples f0 f1 f2 zs) = false) := ⟨by
                    rw [← RQ.out, E0.out]
                    simp only [roomsFrom]
                    rw [meets_of_cov hc (by omega) hlt3]
                    simp⟩
                  clear hc
                  go_wp2
                  go_ret
                  exact ⟨by rw [HF.out]; rfl, HB2.out.trans (BI.out.mono HB2.out.size)⟩
              · have d4 : decide (a + (j : Int) ≤ b) = false := decide_eq_false hlt3
                go_wp2
                have e4 : a + (j : Int) - 1 = b := by omega
                have TI' := TI.out
                rw [e4, ← E1.out] at TI'
                refine ⟨⟨kk + 1, cnt2, hlt, by push_cast; rfl, BI, ⟨TI'⟩, ⟨by have := CI.out; have := CN.out; have := HV2.out; omega⟩, ⟨?_⟩, ⟨?_⟩⟩, ?_⟩
                · rw [E1.out]
                  intro x hx
                  rcases List.mem_append.1 hx with h | h
                  · exact VL.out x h
                  · simp only [List.mem_singleton] at h
                    rw [h]
                    exact HV2.out.1.1.2
                · rw [E1.out, ← RQ.out, E0.out]
                  simp only [roomsFrom]
                  have hm : meets q a b = false := by
                    cases hme : meets q a b
                    · rfl
                    · obtain ⟨z, h0, h1, h2⟩ := cov_of_meets VL.out HV2.out.1.1.2 hme
                      rw [NI.out z h0 (by omega)] at h2
                      cases h2
                  rw [hm, HV.out]
                  simp
                · simp only [RowKit.intOf]
                  omega
          · have HF : Aside0 (roomsFrom l.length [] (triples f0 f1 f2 zs) = false) := ⟨by
              rw [← RQ.out, E0.out]
              simp only [roomsFrom]
              rw [Bool.eq_false_iff.2 hv]
              simp⟩
            have HBX : Aside0 (∀ o, Below w.heap.size w (wr.alloc o)) := ⟨fun o => HB2.out.trans ((BW.out.mono HB2.out.size).alloc (Nat.le_trans HB2.out.size BW.out.size) o)⟩
            have hin : ∀ W : World, Calls Try.prog 61 #[.int .i64 p, .int .i64 0, .int .i64 100] W fun e w' => e = .returned (.bool (decide (0 ≤ p) && decide (p ≤ 100))) ∧ w' = W := fun W => in_any p 0 100 W
            have HIN := Aside0.mk hin
            have HV := Aside0.mk hv
            clear hv hin
            by_cases g1 : a < 0
            · have d1 : decide (a < 0) = true := decide_eq_true g1
              go_wp2
              go_ret
              exact ⟨by rw [HF.out]; rfl, HBX.out _⟩
            · have d1 : decide (a < 0) = false := decide_eq_false g1
              by_cases g2 : b < a
              · have d2 : decide (b < a) = true := decide_eq_true g2
                go_wp2
                go_ret
                exact ⟨by rw [HF.out]; rfl, HBX.out _⟩
              · have d2 : decide (b < a) = false := decide_eq_false g2
                by_cases g3 : (l.length : Int) ≤ b
                · have d3 : decide ((l.length : Int) ≤ b) = true := decide_eq_true g3
                  go_wp2
                  go_ret
                  exact ⟨by rw [HF.out]; rfl, HBX.out _⟩
                · have d3 : decide ((l.length : Int) ≤ b) = false := decide_eq_false g3
                  have e : (decide (0 ≤ p) && decide (p ≤ 100)) = false := by
                    have := HV.out
                    unfold okRoom at this
                    cases h : (decide (0 ≤ p) && decide (p ≤ 100))
                    · rfl
                    · rw [h] at this
                      refine absurd ?_ this
                      simp only [Bool.and_true, Bool.and_eq_true, decide_eq_true_eq]
                      omega
                  have HE := Aside0.mk e
                  clear e
                  go_wp2_with fail
                  refine (HIN.out _).mono ?_
                  rw [HE.out]
                  rintro e w2 ⟨rfl, rfl⟩
                  go_wp2
                  go_ret
                  exact ⟨by rw [HF.out]; rfl, HBX.out _⟩
        · have hdk : decide ((kk : Int) < (zs.length : Int)) = false := decide_eq_false (by omega)
          have hdk2 : decide (kk < zs.length) = false := decide_eq_false hlt
          have hke : kk = zs.length := by omega
          have HF : Aside0 (roomsFrom l.length [] (triples f0 f1 f2 zs) = true) := ⟨by
            rw [← RQ.out, List.drop_eq_nil_of_le (by simp [triples]; omega)]
            rfl⟩
          clear hke
          go_wp2
          go_ret
          exact ⟨by rw [HF.out]; rfl, HB2.out.trans (BW.out.mono HB2.out.size)⟩
    · have hd : decide ((zs.length : Int) > 8) = true := decide_eq_true (by omega)
      have hd2 : decide (8 < zs.length) = true := decide_eq_true (by omega)
      rw [decide_eq_false h8]
      clear h8
      go_enter Try.func49, Try.ntmps49
      go_wp2_with fail
      refine hcall.mono ?_
      rintro e w1 ⟨rfl, hb2⟩
      have HB2 := Aside0.mk (HB.out.trans (hb2.mono HB.out.size))
      clear hb2 HR hcall
      go_wp2
      go_ret
      exact ⟨by simp, HB2.out⟩
end Go.Proofs.Yteggnboikjjaiaa.Rm
