import Derived.Test.YtphfmcdkldcmiaaBFnSizes41
import Derived.WalkKit
import Derived.Orders
import Derived.KernelRfl
import Derived.Deep.Draws
import Derived.Deep.DeepCutAuto
/- Summed, by the reference. -/
namespace Go.Proofs.Ytphfmcdkldcmiaa.Fl
open Go Go.RowKit Go.Proofs.YtphfmcdkldcmiaaW.PrintWords Go.Proofs.YtphfmcdkldcmiaaW.PrintLast Go.Proofs.YtphfmcdkldcmiaaW.PrintMore Go.Proofs.Ytphfmcdkldcmiaa.Rg Go.Proofs.Ytphfmcdkldcmiaa.Rs
open Go.Proofs.Ytphfmcdkldcmiaa.Rt (Mv Near region_spw)
set_option linter.unusedVariables false
set_option linter.unusedSimpArgs false
/-- The two sums behind so many rounds. -/
def suS (f : Nat → Nat × Nat) : Nat → (Nat × Nat) × (Nat × Nat)
  | 0 => ((0, 0), (0, 0))
  | i + 1 => ((fP .add .f32 (suS f i).1.1 (f i).1, fP .add .f32 (suS f i).1.2 (f i).2), (fP .add .f64 (suS f i).2.1 (gP (f i).1), fP .add .f64 (suS f i).2.2 (gP (f i).2)))
def SuIs (n : Nat) (f : Nat → Nat × Nat) (e : Ending) : Prop := ∃ a b x y : Nat, e = .returned (.tuple #[.agg #[.float .f32 a, .float .f32 b], .agg #[.float .f64 x, .float .f64 y]]) ∧ Same .f32 a (if n ≤ 60 then suS f n else ((0, 0), (0, 0))).1.1 ∧ Same .f32 b (if n ≤ 60 then suS f n else ((0, 0), (0, 0))).1.2 ∧ Same .f64 x (if n ≤ 60 then suS f n else ((0, 0), (0, 0))).2.1 ∧ Same .f64 y (if n ≤ 60 then suS f n else ((0, 0), (0, 0))).2.2
theorem great_specW (a b : Nat) (w : World) : Calls Try.prog 64 #[.agg #[.float .f32 a, .float .f32 b]] w fun e w' => ∃ r i, e = .returned (.agg #[.float .f64 r, .float .f64 i]) ∧ Same .f64 r (gP a) ∧ Same .f64 i (gP b) ∧ Below w.heap.size w w' := great_spec a b w
set_option maxHeartbeats 4000000 in
set_option maxRecDepth 100000 in
theorem summed_spec (A0 : Option Addr) (c0 : Nat) (l : List (Nat × Nat)) (f : Nat → Nat × Nat) (n : Nat) (w : World) (hr : (kw .f32).C w A0 n l) (hn : n ≤ 60) (hf : ∀ j : Nat, j < n → SameW .f32 (el l j) (f j)) :
    Calls Try.prog 20 #[.slice A0 n c0] w fun e w' => SuIs n f e ∧ Below w.heap.size w w' := by
  have HR := Aside0.mk hr
  have HL := Aside0.mk hn
  have HF := Aside0.mk hf
  have hg0 : decide ((n : Int) > 60) = false := decide_eq_false (by omega)
  have hg2 : decide ((n : Int) ≤ 60) = true := decide_eq_true (by omega)
  have hg1 : ¬ (60 < n) := by omega
  clear hr hf
  go_enter Try.func20, Try.ntmps20
  go_wp2
  go_loopw [6] (fun s6 wr => ∃ (i a b x y : Nat), s6 = .int .i64 (i : Int) ∧ Aside0 (i ≤ n) ∧ Aside0 (Same .f32 a (suS f i).1.1 ∧ Same .f32 b (suS f i).1.2 ∧ Same .f64 x (suS f i).2.1 ∧ Same .f64 y (suS f i).2.2) ∧ Blk wr w.heap.size 38 #[.float .f32 0, .float .f32 0] ∧ Blk wr (w.heap.size + 1) 26 #[.float .f64 0, .float .f64 0] ∧ Blk wr (w.heap.size + 1 + 1) 38 #[.float .f32 a, .float .f32 b] ∧ Blk wr (w.heap.size + 1 + 1 + 1) 26 #[.float .f64 x, .float .f64 y] ∧ Aside0 (Below w.heap.size w wr)) (fun i _ => n - (RowKit.intOf i).toNat)
  case atStart =>
    refine ⟨0, 0, 0, 0, 0, rfl, ⟨by omega⟩, ⟨Same.refl _ _, Same.refl _ _, Same.refl _ _, Same.refl _ _⟩, ?_, ?_, ?_, ?_, ⟨?_⟩⟩
    · exact (((Blk.new w _ _).alloc _).alloc _).alloc _
    · exact ((Blk.newAt _ _ (by simp)).alloc _).alloc _
    · exact (Blk.newAt _ _ (by simp)).alloc _
    · exact Blk.newAt _ _ (by simp)
    · exact below_al (below_al (below_al (below_al (Below.refl _ _) _) _) _) _
  case round =>
    obtain ⟨i, a, b, x, y, rfl, HI, HS, B2, B3, B4, B5, HB⟩ := hrel
    by_cases hi : i < n
    · have hd : decide ((i : Int) < (n : Int)) = true := decide_eq_true (by omega)
      obtain ⟨ad, eA, hz, hz2⟩ := kw_read HR.out i hi
      subst eA
      have hx := (HB.out.cell (World.block_lt_of_cell? w _ hz)).trans hz
      have hx2 := (HB.out.cell (World.block_lt_of_cell? w _ hz2)).trans hz2
      have hf := Aside0.mk (HF.out i hi)
      have HZ := Aside0.mk (And.intro hz hz2)
      clear hz hz2
      go_upto_region 5 with fail
      replace B2 := B2.drew
      replace B3 := B3.drew
      replace B4 := B4.drew
      replace B5 := B5.drew
      refine Rt.region_spl (M := (fun _ => False)) (by kernel_rfl) [some 21, some 22, some 23, some 24, some 25, some 26] [u21, u22, u23, u24, u25, u26] [] [Rt.Sp.val (fun v u_ => v = .agg #[.float .f32 a, .float .f32 b]), Rt.Sp.val (fun v u_ => v = .slice (some ad) n c0), Rt.Sp.val (fun v u_ => v = .int .i64 (i : Int)), Rt.Sp.val (fun v u_ => v = .pointer (some (ad.add (i * 2)))), Rt.Sp.val (fun v u_ => v = .agg #[.float .f32 (el l i).1, .float .f32 (el l i).2]), Rt.Sp.val (fun v u_ => ∃ (r5 : Nat) (k5 : Nat), v = .agg #[.float .f32 r5, .float .f32 k5] ∧ Same .f32 r5 (fP .add .f32 (suS f i).1.1 (f i).1) ∧ Same .f32 k5 (fP .add .f32 (suS f i).1.2 (f i).2))] (by kernel_rfl) rfl (by kernel_rfl) (fun _ h => h.elim) ⟨(fun _ _ _ h _ => h), (fun _ _ _ h _ => h), (fun _ _ _ h _ => h), (fun _ _ _ h _ => h), (fun _ _ _ h _ => h), (fun _ _ _ h _ => h), trivial⟩ ⟨?_, ?_, ?_, ?_, ?_, ?_, ?_⟩
      · intro vs hl u1 hb hd
        obtain ⟨v0, v1, v2, v3, v4, v5, rfl⟩ := len6 hl
        clear hl
        intro K hK
        obtain ⟨l0, l1⟩ := (hb.blk B4 (fun h => h)).two
        simp only [fs, fo, fz, Act.put, s1, s2, s3] at hK ⊢
        refine ⟨?_⟩
        go_simp
        exact hK _ _ (Mv.refl _ _) rfl
      · intro vs hl u1 hb hd
        obtain ⟨v0, v1, v2, v3, v4, v5, rfl⟩ := len6 hl
        clear hl
        intro K hK
        simp only [fs, fo, fz, Act.put, s1, s2, s3] at hK ⊢
        refine ⟨?_⟩
        go_simp
        exact hK _ _ (Mv.refl _ _) rfl
      · intro vs hl u1 hb hd
        obtain ⟨v0, v1, v2, v3, v4, v5, rfl⟩ := len6 hl
        clear hl
        intro K hK
        simp only [fs, fo, fz, Act.put, s1, s2, s3] at hK ⊢
        refine ⟨?_⟩
        go_simp
        exact hK _ _ (Mv.refl _ _) rfl
      · intro vs hl u1 hb hd
        obtain ⟨v0, v1, v2, v3, v4, v5, rfl⟩ := len6 hl
        clear hl
        obtain ⟨kh1, kh2, _⟩ := hd
        obtain rfl : v1 = .slice (some ad) n c0 := kh1
        obtain rfl : v2 = .int .i64 (i : Int) := kh2
        intro K hK
        simp only [fs, fo, fz, Act.put, s1, s2, s3] at hK ⊢
        refine ⟨?_⟩
        go_simp
        exact hK _ _ (Mv.refl _ _) rfl
      · intro vs hl u1 hb hd
        obtain ⟨v0, v1, v2, v3, v4, v5, rfl⟩ := len6 hl
        clear hl
        obtain ⟨kh3, _⟩ := hd
        obtain rfl : v3 = .pointer (some (ad.add (i * 2))) := kh3
        intro K hK
        have l0 := hb.cellv (show wr.drew.cell? _ = _ from hx) (fun h => h)
        have l1 := hb.cellv (show wr.drew.cell? _ = _ from hx2) (fun h => h)
        simp only [fs, fo, fz, Act.put, s1, s2, s3] at hK ⊢
        refine ⟨?_⟩
        go_simp
        exact hK _ _ (Mv.refl _ _) rfl
      · intro vs hl u1 hb hd
        obtain ⟨v0, v1, v2, v3, v4, v5, rfl⟩ := len6 hl
        clear hl
        obtain ⟨kh0, kh4, _⟩ := hd
        obtain rfl : v0 = .agg #[.float .f32 a, .float .f32 b] := kh0
        obtain rfl : v4 = .agg #[.float .f32 (el l i).1, .float .f32 (el l i).2] := kh4
        intro K hK
        simp only [fs, fo, fz, Act.put, s1, s2, s3] at hK ⊢
        refine ⟨?_⟩
        go_simp
        refine (AddSmall_spec _ _ _ _ _).mono ?_
        rintro e w2 ⟨r5, k5, rfl, hq0, hq1, hb2⟩
        exact hK _ _ (Mv.of hb2) ⟨r5, k5, rfl, by rw [fP_same (op := .add) HS.out.1 hf.out.1] at hq0; exact hq0, by rw [fP_same (op := .add) HS.out.2.1 hf.out.2] at hq1; exact hq1⟩
      · refine Rt.allOkL_last ?_
        unfold Rt.LastOk
        intro vs hl w1 hb hd ha K hK
        obtain ⟨v0, v1, v2, v3, v4, v5, rfl⟩ := len6 hl
        clear hl
        obtain ⟨kh0, kh1, kh2, kh3, kh4, kh5, _⟩ := hd
        obtain rfl : v0 = .agg #[.float .f32 a, .float .f32 b] := kh0
        obtain rfl : v1 = .slice (some ad) n c0 := kh1
        obtain rfl : v2 = .int .i64 (i : Int) := kh2
        obtain rfl : v3 = .pointer (some (ad.add (i * 2))) := kh3
        obtain rfl : v4 = .agg #[.float .f32 (el l i).1, .float .f32 (el l i).2] := kh4
        obtain ⟨r5, k5, rfl, kf5_0, kf5_1⟩ := kh5
        clear ha
        simp only [fs, fo, fz, Act.put, s1, s2, s3] at hK ⊢
        replace B2 := hb.blk B2 (fun h => h)
        replace B3 := hb.blk B3 (fun h => h)
        replace B4 := hb.blk B4 (fun h => h)
        replace B5 := hb.blk B5 (fun h => h)
        replace HB := Aside0.mk (HB.out.trans (Below.trans (show Below w.heap.size wr wr.drew from pw_below_drewN (Below.refl _ _) 1) (hb.belowB HB.out.size (fun _ h => h.elim))))
        clear hb
        have z0 := B4.two.1
        have z1 := B4.two.2
        have fz0 := B4.free 0
        have fz1 := B4.free 1
        clear hx hx2
        refine ⟨?_⟩
        go_simp
        refine hK _ _ ?_
        clear hK
        have HQ := Aside0.mk (And.intro kf5_0 kf5_1)
        clear kf5_0 kf5_1
        have CB2 : Blk ((w1.setCell ⟨w.heap.size + 1 + 1, 0, none⟩ (.float .f32 r5)).setCell ⟨w.heap.size + 1 + 1, 1, none⟩ (.float .f32 k5)) w.heap.size 38 #[.float .f32 0, .float .f32 0] := ((B2.far _ (by omega : w.heap.size ≠ w.heap.size + 1 + 1)).far _ (by omega : w.heap.size ≠ w.heap.size + 1 + 1))
        have CB3 : Blk ((w1.setCell ⟨w.heap.size + 1 + 1, 0, none⟩ (.float .f32 r5)).setCell ⟨w.heap.size + 1 + 1, 1, none⟩ (.float .f32 k5)) (w.heap.size + 1) 26 #[.float .f64 0, .float .f64 0] := ((B3.far _ (by omega : w.heap.size + 1 ≠ w.heap.size + 1 + 1)).far _ (by omega : w.heap.size + 1 ≠ w.heap.size + 1 + 1))
        have CB4 : Blk ((w1.setCell ⟨w.heap.size + 1 + 1, 0, none⟩ (.float .f32 r5)).setCell ⟨w.heap.size + 1 + 1, 1, none⟩ (.float .f32 k5)) (w.heap.size + 1 + 1) 38 _ := (B4.set 0 (.float .f32 r5)).set 1 (.float .f32 k5)
        simp only [List.setIfInBounds_toArray, List.set_cons_zero, List.set_cons_succ] at CB4
        have CB5 : Blk ((w1.setCell ⟨w.heap.size + 1 + 1, 0, none⟩ (.float .f32 r5)).setCell ⟨w.heap.size + 1 + 1, 1, none⟩ (.float .f32 k5)) (w.heap.size + 1 + 1 + 1) 26 #[.float .f64 x, .float .f64 y] := ((B5.far _ (by omega : w.heap.size + 1 + 1 + 1 ≠ w.heap.size + 1 + 1)).far _ (by omega : w.heap.size + 1 + 1 + 1 ≠ w.heap.size + 1 + 1))
        have HC := Aside0.mk (below_st (below_st HB.out (p := ⟨w.heap.size + 1 + 1, 0, none⟩) (by simp; try omega) (.float .f32 r5)) (p := ⟨w.heap.size + 1 + 1, 1, none⟩) (by simp; try omega) (.float .f32 k5))
        clear z0 z1 fz0 fz1 HB B2 B3 B4 B5
        generalize ((w1.setCell ⟨w.heap.size + 1 + 1, 0, none⟩ (.float .f32 r5)).setCell ⟨w.heap.size + 1 + 1, 1, none⟩ (.float .f32 k5)) = w2 at CB2 CB3 CB4 CB5 HC ⊢
        have B2 := CB2
        have B3 := CB3
        have B4 := CB4
        have B5 := CB5
        have HB := HC
        clear HC CB2 CB3 CB4 CB5
        have hx := (HB.out.cell (World.block_lt_of_cell? w _ HZ.out.1)).trans HZ.out.1
        have hx2 := (HB.out.cell (World.block_lt_of_cell? w _ HZ.out.2)).trans HZ.out.2
        go_wp2_with (go_at_call 64; (refine (great_specW _ _ _).mono ?_); rintro e w3 ⟨p, q, rfl, hp, hq, hb⟩; have HG := Aside0.mk (And.intro hp hq); clear hp hq hx hx2; replace B2 := B2.below hb; replace B3 := B3.below hb; replace B4 := B4.below hb; replace B5 := B5.below hb; replace HB := Aside0.mk (HB.out.trans (hb.mono HB.out.size)); clear hb; have z0 := B5.two.1; have z1 := B5.two.2; have fz0 := B5.free 0; have fz1 := B5.free 1; have lt5 := B5.lt)
        have e1 := wk hi (by omega)
        exact ⟨⟨i + 1, r5, k5, _, _, congrArg (Value.int .i64) (by first | exact e1 | omega), ⟨by omega⟩, ⟨HQ.out.1, HQ.out.2, by have q := fAr_same (op := .add) HS.out.2.2.1 HG.out.1; rw [gP_same hf.out.1] at q; exact q _, by have q := fAr_same (op := .add) HS.out.2.2.2 HG.out.2; rw [gP_same hf.out.2] at q; exact q _⟩, ((((B2.far _ (by omega : w.heap.size ≠ w.heap.size + 1 + 1 + 1)).far _ (by omega : w.heap.size ≠ w.heap.size + 1 + 1 + 1))).alloc _).drewN _, ((((B3.far _ (by omega : w.heap.size + 1 ≠ w.heap.size + 1 + 1 + 1)).far _ (by omega : w.heap.size + 1 ≠ w.heap.size + 1 + 1 + 1))).alloc _).drewN _, ((((B4.far _ (by omega : w.heap.size + 1 + 1 ≠ w.heap.size + 1 + 1 + 1)).far _ (by omega : w.heap.size + 1 + 1 ≠ w.heap.size + 1 + 1 + 1))).alloc _).drewN _, ((((B5.set 0 _).set 1 _)).alloc _).drewN _, ⟨below_drewN (below_al (below_st (below_st HB.out (by simp; omega) _) (by simp; omega) _) _) _⟩⟩, by (try rw [e1]); simp [RowKit.intOf]; omega⟩
    · have hd : decide ((i : Int) < (n : Int)) = false := decide_eq_false (by omega)
      obtain ⟨q20, q21⟩ := B2.two
      obtain ⟨q30, q31⟩ := B3.two
      obtain ⟨q40, q41⟩ := B4.two
      obtain ⟨q50, q51⟩ := B5.two
      have f20 := B2.free 0
      have f21 := B2.free 1
      have f30 := B3.free 0
      have f31 := B3.free 1
      obtain rfl : i = n := by have := HI.out; omega
      go_wp2
      go_region
      obtain ⟨W4, e4⟩ : ∃ W4, W4 = (((wr.setCell ⟨w.heap.size, 0, none⟩ (.float .f32 a)).setCell ⟨w.heap.size, 1, none⟩ (.float .f32 b)).setCell ⟨w.heap.size + 1, 0, none⟩ (.float .f64 x)).setCell ⟨w.heap.size + 1, 1, none⟩ (.float .f64 y) := ⟨_, rfl⟩
      have C2 : Blk W4 w.heap.size 38 #[.float .f32 a, .float .f32 b] := by rw [e4]; exact ((((B2.set 0 _).set 1 _).far _ (by omega : w.heap.size ≠ w.heap.size + 1)).far _ (by omega : w.heap.size ≠ w.heap.size + 1))
      have C3 : Blk W4 (w.heap.size + 1) 26 #[.float .f64 x, .float .f64 y] := by rw [e4]; exact ((((B3.far _ (by omega : w.heap.size + 1 ≠ w.heap.size)).far _ (by omega : w.heap.size + 1 ≠ w.heap.size)).set 0 _).set 1 _)
      have HC : Aside0 (Below w.heap.size w W4) := ⟨by rw [e4]; exact below_st (below_st (below_st (below_st HB.out (by simp) _) (by simp) _) (by simp) _) (by simp) _⟩
      rw [← e4]
      clear e4 q20 q21 q30 q31 q40 q41 q50 q51 f20 f21 f30 f31 B2 B3 B4 B5 HB
      replace C2 := C2.drew
      replace C3 := C3.drew
      have hb4 : Below w.heap.size w W4.drew := by have := HC.out; exact ⟨this.os, this.tape, this.output, this.size, this.block⟩
      have HC2 := Aside0.mk hb4
      generalize W4.drew = W5 at C2 C3 HC2 ⊢
      clear hb4 HC
      obtain ⟨q20, q21⟩ := C2.two
      obtain ⟨q30, q31⟩ := C3.two
      clear C2 C3
      go_wp2
      refine ret_val ?_ rfl; simp [results, Try.results20, go_sem, q20, q21, q30, q31]
      exact ⟨⟨_, _, _, _, rfl, by rw [if_pos HL.out]; exact HS.out.1, by rw [if_pos HL.out]; exact HS.out.2.1, by rw [if_pos HL.out]; exact HS.out.2.2.1, by rw [if_pos HL.out]; exact HS.out.2.2.2⟩, HC2.out⟩
set_option maxHeartbeats 4000000 in
set_option maxRecDepth 100000 in
theorem summed_spec_big (A0 : Option Addr) (c0 : Nat) (f : Nat → Nat × Nat) (n : Nat) (w : World) (hn : 60 < n) (hm : n ≤ 1048576) :
    Calls Try.prog 20 #[.slice A0 n c0] w fun e w' => SuIs n f e ∧ Below w.heap.size w w' := by
  have HL := Aside0.mk hn
  have hd : decide ((0 : Int) < (n : Int)) = true := decide_eq_true (by omega)
  have hg2 : decide ((n : Int) ≤ 60) = false := decide_eq_false (by omega)
  have hg1 : 60 < n := by omega
  have hg3 : 0 < n := by omega
  go_enter Try.func20, Try.ntmps20
  go_wp2
  go_loopw [6] (fun s6 wr => ∃ (a b x y : Nat), s6 = .int .i64 0 ∧ Aside0 (a = 0 ∧ b = 0 ∧ x = 0 ∧ y = 0) ∧ Blk wr w.heap.size 38 #[.float .f32 0, .float .f32 0] ∧ Blk wr (w.heap.size + 1) 26 #[.float .f64 0, .float .f64 0] ∧ Blk wr (w.heap.size + 1 + 1) 38 #[.float .f32 a, .float .f32 b] ∧ Blk wr (w.heap.size + 1 + 1 + 1) 26 #[.float .f64 x, .float .f64 y] ∧ Aside0 (Below w.heap.size w wr)) (fun i _ => 0)
  case atStart =>
    refine ⟨0, 0, 0, 0, rfl, ⟨rfl, rfl, rfl, rfl⟩, ?_, ?_, ?_, ?_, ⟨?_⟩⟩
    · exact (((Blk.new w _ _).alloc _).alloc _).alloc _
    · exact ((Blk.newAt _ _ (by simp)).alloc _).alloc _
    · exact (Blk.newAt _ _ (by simp)).alloc _
    · exact Blk.newAt _ _ (by simp)
    · exact below_al (below_al (below_al (below_al (Below.refl _ _) _) _) _) _
  case round =>
    obtain ⟨a, b, x, y, rfl, HS, B2, B3, B4, B5, HB⟩ := hrel
    obtain ⟨q20, q21⟩ := B2.two
    obtain ⟨q30, q31⟩ := B3.two
    obtain ⟨q40, q41⟩ := B4.two
    obtain ⟨q50, q51⟩ := B5.two
    have f20 := B2.free 0
    have f21 := B2.free 1
    have f30 := B3.free 0
    have f31 := B3.free 1
    go_wp2
    go_region
    obtain ⟨W4, e4⟩ : ∃ W4, W4 = (((wr.setCell ⟨w.heap.size, 0, none⟩ (.float .f32 a)).setCell ⟨w.heap.size, 1, none⟩ (.float .f32 b)).setCell ⟨w.heap.size + 1, 0, none⟩ (.float .f64 x)).setCell ⟨w.heap.size + 1, 1, none⟩ (.float .f64 y) := ⟨_, rfl⟩
    have C2 : Blk W4 w.heap.size 38 #[.float .f32 a, .float .f32 b] := by rw [e4]; exact ((((B2.set 0 _).set 1 _).far _ (by omega : w.heap.size ≠ w.heap.size + 1)).far _ (by omega : w.heap.size ≠ w.heap.size + 1))
    have C3 : Blk W4 (w.heap.size + 1) 26 #[.float .f64 x, .float .f64 y] := by rw [e4]; exact ((((B3.far _ (by omega : w.heap.size + 1 ≠ w.heap.size)).far _ (by omega : w.heap.size + 1 ≠ w.heap.size)).set 0 _).set 1 _)
    have HC : Aside0 (Below w.heap.size w W4) := ⟨by rw [e4]; exact below_st (below_st (below_st (below_st HB.out (by simp) _) (by simp) _) (by simp) _) (by simp) _⟩
    rw [← e4]
    clear e4 q20 q21 q30 q31 q40 q41 q50 q51 f20 f21 f30 f31 B2 B3 B4 B5 HB
    replace C2 := C2.drew
    replace C3 := C3.drew
    have hb4 : Below w.heap.size w W4.drew := by have := HC.out; exact ⟨this.os, this.tape, this.output, this.size, this.block⟩
    have HC2 := Aside0.mk hb4
    generalize W4.drew = W5 at C2 C3 HC2 ⊢
    clear hb4 HC
    obtain ⟨q20, q21⟩ := C2.two
    obtain ⟨q30, q31⟩ := C3.two
    clear C2 C3
    go_wp2
    refine ret_val ?_ rfl; simp [results, Try.results20, go_sem, q20, q21, q30, q31]
    exact ⟨⟨_, _, _, _, rfl, by rw [if_neg (by have := HL.out; omega), HS.out.1]; exact Same.refl _ _, by rw [if_neg (by have := HL.out; omega), HS.out.2.1]; exact Same.refl _ _, by rw [if_neg (by have := HL.out; omega), HS.out.2.2.1]; exact Same.refl _ _, by rw [if_neg (by have := HL.out; omega), HS.out.2.2.2]; exact Same.refl _ _⟩, HC2.out⟩
end Go.Proofs.Ytphfmcdkldcmiaa.Fl
/- Summed, by the program. -/
namespace Go.Proofs.Ytphfmcdkldcmiaa.Fl
open Go Go.RowKit Go.Proofs.YtphfmcdkldcmiaaW.PrintWords Go.Proofs.YtphfmcdkldcmiaaW.PrintLast Go.Proofs.YtphfmcdkldcmiaaW.PrintMore Go.Proofs.Ytphfmcdkldcmiaa.Rg Go.Proofs.Ytphfmcdkldcmiaa.Rs
open Go.Proofs.Ytphfmcdkldcmiaa.Rt (Mv Near region_spw)
set_option linter.unusedVariables false
set_option linter.unusedSimpArgs false
theorem great_implW (a b : Nat) (w : World) : Calls Try.prog 49 #[.agg #[.float .f32 a, .float .f32 b]] w fun e w' => ∃ r i, e = .returned (.agg #[.float .f64 r, .float .f64 i]) ∧ Same .f64 r (gP a) ∧ Same .f64 i (gP b) ∧ Below w.heap.size w w' := great_impl a b w
set_option maxHeartbeats 4000000 in
set_option maxRecDepth 100000 in
theorem summed_impl (A0 : Option Addr) (c0 : Nat) (l : List (Nat × Nat)) (f : Nat → Nat × Nat) (n : Nat) (w : World) (hr : (kw .f32).C w A0 n l) (hn : n ≤ 60) (hf : ∀ j : Nat, j < n → SameW .f32 (el l j) (f j)) :
    Calls Try.prog 22 #[.slice A0 n c0] w fun e w' => SuIs n f e ∧ Below w.heap.size w w' := by
  have HR := Aside0.mk hr
  have HL := Aside0.mk hn
  have HF := Aside0.mk hf
  have hg0 : decide ((n : Int) > 60) = false := decide_eq_false (by omega)
  have hg2 : decide ((n : Int) ≤ 60) = true := decide_eq_true (by omega)
  have hg1 : ¬ (60 < n) := by omega
  clear hr hf
  go_enter Try.func22, Try.ntmps22
  go_wp2
  go_loopw [15] (fun s15 wr => ∃ (i a b x y : Nat), s15 = .int .i64 (i : Int) ∧ Aside0 (i ≤ n) ∧ Aside0 (Same .f32 a (suS f i).1.1 ∧ Same .f32 b (suS f i).1.2 ∧ Same .f64 x (suS f i).2.1 ∧ Same .f64 y (suS f i).2.2) ∧ Blk wr w.heap.size 38 #[.float .f32 0, .float .f32 0] ∧ Blk wr (w.heap.size + 1) 26 #[.float .f64 0, .float .f64 0] ∧ Blk wr (w.heap.size + 1 + 1) 38 #[.float .f32 a, .float .f32 b] ∧ Blk wr (w.heap.size + 1 + 1 + 1) 26 #[.float .f64 x, .float .f64 y] ∧ Aside0 (Below w.heap.size w wr)) (fun i _ => n - (RowKit.intOf i).toNat)
  case atStart =>
    refine ⟨0, 0, 0, 0, 0, rfl, ⟨by omega⟩, ⟨Same.refl _ _, Same.refl _ _, Same.refl _ _, Same.refl _ _⟩, ?_, ?_, ?_, ?_, ⟨?_⟩⟩
    · exact (((Blk.new w _ _).alloc _).alloc _).alloc _
    · exact ((Blk.newAt _ _ (by simp)).alloc _).alloc _
    · exact (Blk.newAt _ _ (by simp)).alloc _
    · exact Blk.newAt _ _ (by simp)
    · exact below_al (below_al (below_al (below_al (Below.refl _ _) _) _) _) _
  case round =>
    obtain ⟨i, a, b, x, y, rfl, HI, HS, B2, B3, B4, B5, HB⟩ := hrel
    by_cases hi : i < n
    · have hd : decide ((i : Int) < (n : Int)) = true := decide_eq_true (by omega)
      obtain ⟨ad, eA, hz, hz2⟩ := kw_read HR.out i hi
      subst eA
      have hx := (HB.out.cell (World.block_lt_of_cell? w _ hz)).trans hz
      have hx2 := (HB.out.cell (World.block_lt_of_cell? w _ hz2)).trans hz2
      have hf := Aside0.mk (HF.out i hi)
      have HZ := Aside0.mk (And.intro hz hz2)
      clear hz hz2
      go_upto_region 8 with fail
      have B7 : Blk (wr.alloc (.cells #[.float .f32 (el l i).1, .float .f32 (el l i).2] 38)) wr.heap.size 38 #[.float .f32 (el l i).1, .float .f32 (el l i).2] := Blk.new wr _ _
      have hgx := B5.lt
      have hb0 : Below wr.heap.size wr (wr.alloc (.cells #[.float .f32 (el l i).1, .float .f32 (el l i).2] 38)) := (Below.refl wr.heap.size wr).alloc (Nat.le_refl _) _
      replace B2 := B2.below hb0
      replace B3 := B3.below hb0
      replace B4 := B4.below hb0
      replace B5 := B5.below hb0
      replace HB := Aside0.mk (HB.out.trans (hb0.mono HB.out.size))
      clear hx hx2 hb0
      generalize wr.alloc (.cells #[.float .f32 (el l i).1, .float .f32 (el l i).2] 38) = W0 at *
      generalize wr.heap.size = gx at *
      have z40 := B4.two.1
      have z41 := B4.two.2
      have z70 := B7.two.1
      have z71 := B7.two.2
      go_wp2_with fail
      refine (AddSmall_impl _ _ _ _ _).mono ?_
      rintro e w1 ⟨r5, k5, rfl, hq0, hq1, hb⟩
      rw [fP_same (op := .add) HS.out.1 hf.out.1] at hq0
      rw [fP_same (op := .add) HS.out.2.1 hf.out.2] at hq1
      have HQ := Aside0.mk (And.intro hq0 hq1)
      clear hq0 hq1 z40 z41 z70 z71
      replace B2 := B2.below hb
      replace B3 := B3.below hb
      replace B4 := B4.below hb
      replace B5 := B5.below hb
      replace B7 := B7.below hb
      replace HB := Aside0.mk (HB.out.trans (hb.mono HB.out.size))
      clear hb
      have z0 := B4.two.1
      have z1 := B4.two.2
      have fz0 := B4.free 0
      have fz1 := B4.free 1
      go_upto_region 9 with fail
      have CB2 : Blk ((w1.setCell ⟨w.heap.size + 1 + 1, 0, none⟩ (.float .f32 r5)).setCell ⟨w.heap.size + 1 + 1, 1, none⟩ (.float .f32 k5)) w.heap.size 38 #[.float .f32 0, .float .f32 0] := ((B2.far _ (by omega : w.heap.size ≠ w.heap.size + 1 + 1)).far _ (by omega : w.heap.size ≠ w.heap.size + 1 + 1))
      have CB3 : Blk ((w1.setCell ⟨w.heap.size + 1 + 1, 0, none⟩ (.float .f32 r5)).setCell ⟨w.heap.size + 1 + 1, 1, none⟩ (.float .f32 k5)) (w.heap.size + 1) 26 #[.float .f64 0, .float .f64 0] := ((B3.far _ (by omega : w.heap.size + 1 ≠ w.heap.size + 1 + 1)).far _ (by omega : w.heap.size + 1 ≠ w.heap.size + 1 + 1))
      have CB4 : Blk ((w1.setCell ⟨w.heap.size + 1 + 1, 0, none⟩ (.float .f32 r5)).setCell ⟨w.heap.size + 1 + 1, 1, none⟩ (.float .f32 k5)) (w.heap.size + 1 + 1) 38 _ := (B4.set 0 (.float .f32 r5)).set 1 (.float .f32 k5)
      simp only [List.setIfInBounds_toArray, List.set_cons_zero, List.set_cons_succ] at CB4
      have CB5 : Blk ((w1.setCell ⟨w.heap.size + 1 + 1, 0, none⟩ (.float .f32 r5)).setCell ⟨w.heap.size + 1 + 1, 1, none⟩ (.float .f32 k5)) (w.heap.size + 1 + 1 + 1) 26 #[.float .f64 x, .float .f64 y] := ((B5.far _ (by omega : w.heap.size + 1 + 1 + 1 ≠ w.heap.size + 1 + 1)).far _ (by omega : w.heap.size + 1 + 1 + 1 ≠ w.heap.size + 1 + 1))
      have CB7 : Blk ((w1.setCell ⟨w.heap.size + 1 + 1, 0, none⟩ (.float .f32 r5)).setCell ⟨w.heap.size + 1 + 1, 1, none⟩ (.float .f32 k5)) gx 38 #[.float .f32 (el l i).1, .float .f32 (el l i).2] := ((B7.far _ (by omega : gx ≠ w.heap.size + 1 + 1)).far _ (by omega : gx ≠ w.heap.size + 1 + 1))
      have HC := Aside0.mk (below_st (below_st HB.out (p := ⟨w.heap.size + 1 + 1, 0, none⟩) (by simp; try omega) (.float .f32 r5)) (p := ⟨w.heap.size + 1 + 1, 1, none⟩) (by simp; try omega) (.float .f32 k5))
      clear z0 z1 fz0 fz1 HB B2 B3 B4 B5 B7
      generalize ((w1.setCell ⟨w.heap.size + 1 + 1, 0, none⟩ (.float .f32 r5)).setCell ⟨w.heap.size + 1 + 1, 1, none⟩ (.float .f32 k5)) = w2 at CB2 CB3 CB4 CB5 CB7 HC ⊢
      have B2 := CB2
      have B3 := CB3
      have B4 := CB4
      have B5 := CB5
      have B7 := CB7
      have HB := HC
      clear HC CB2 CB3 CB4 CB5 CB7
      replace B2 := B2.drew
      replace B3 := B3.drew
      replace B4 := B4.drew
      replace B5 := B5.drew
      replace B7 := B7.drew
      refine Rt.region_spl (M := (fun _ => False)) (by kernel_rfl) [some 22, some 23, some 24, some 25] [u22, u23, u24, u25] [] [Rt.Sp.val (fun v u_ => v = .agg #[.float .f64 x, .float .f64 y]), Rt.Sp.val (fun v u_ => v = .agg #[.float .f32 (el l i).1, .float .f32 (el l i).2]), Rt.Sp.val (fun v u_ => ∃ (p2 : Nat) (q2 : Nat), v = .agg #[.float .f64 p2, .float .f64 q2] ∧ Same .f64 p2 (gP (f i).1) ∧ Same .f64 q2 (gP (f i).2)), Rt.Sp.val (fun v u_ => ∃ (r6 : Nat) (k6 : Nat), v = .agg #[.float .f64 r6, .float .f64 k6] ∧ Same .f64 r6 (fP .add .f64 (suS f i).2.1 (gP (f i).1)) ∧ Same .f64 k6 (fP .add .f64 (suS f i).2.2 (gP (f i).2)))] (by kernel_rfl) rfl (by kernel_rfl) (fun _ h => h.elim) ⟨(fun _ _ _ h _ => h), (fun _ _ _ h _ => h), (fun _ _ _ h _ => h), (fun _ _ _ h _ => h), trivial⟩ ⟨?_, ?_, ?_, ?_, ?_⟩
      · intro vs hl u1 hb hd
        obtain ⟨v0, v1, v2, v3, rfl⟩ := len4 hl
        clear hl
        intro K hK
        obtain ⟨l0, l1⟩ := (hb.blk B5 (fun h => h)).two
        simp only [fs, fo, fz, Act.put, s1, s2, s3] at hK ⊢
        refine ⟨?_⟩
        go_simp
        exact hK _ _ (Mv.refl _ _) rfl
      · intro vs hl u1 hb hd
        obtain ⟨v0, v1, v2, v3, rfl⟩ := len4 hl
        clear hl
        intro K hK
        obtain ⟨l0, l1⟩ := (hb.blk B7 (fun h => h)).two
        simp only [fs, fo, fz, Act.put, s1, s2, s3] at hK ⊢
        refine ⟨?_⟩
        go_simp
        exact hK _ _ (Mv.refl _ _) rfl
      · intro vs hl u1 hb hd
        obtain ⟨v0, v1, v2, v3, rfl⟩ := len4 hl
        clear hl
        obtain ⟨kh1, _⟩ := hd
        obtain rfl : v1 = .agg #[.float .f32 (el l i).1, .float .f32 (el l i).2] := kh1
        intro K hK
        simp only [fs, fo, fz, Act.put, s1, s2, s3] at hK ⊢
        refine ⟨?_⟩
        go_simp
        refine (great_implW _ _ _).mono ?_
        rintro e w2 ⟨p2, q2, rfl, hq0, hq1, hb2⟩
        exact hK _ _ (Mv.of hb2) ⟨p2, q2, rfl, by rw [gP_same hf.out.1] at hq0; exact hq0, by rw [gP_same hf.out.2] at hq1; exact hq1⟩
      · intro vs hl u1 hb hd
        obtain ⟨v0, v1, v2, v3, rfl⟩ := len4 hl
        clear hl
        obtain ⟨kh0, kh2, _, _⟩ := hd
        obtain rfl : v0 = .agg #[.float .f64 x, .float .f64 y] := kh0
        obtain ⟨p2, q2, rfl, kf2_0, kf2_1⟩ := kh2
        intro K hK
        simp only [fs, fo, fz, Act.put, s1, s2, s3] at hK ⊢
        refine ⟨?_⟩
        go_simp
        refine (addWave_any _ _ _ _ _).mono ?_
        rintro e w2 ⟨r6, k6, rfl, hq0, hq1, hb2⟩
        exact hK _ _ (Mv.of hb2) ⟨r6, k6, rfl, by rw [fP_same (op := .add) HS.out.2.2.1 kf2_0] at hq0; exact hq0, by rw [fP_same (op := .add) HS.out.2.2.2 kf2_1] at hq1; exact hq1⟩
      · refine Rt.allOkL_last ?_
        unfold Rt.LastOk
        intro vs hl w3 hb hd ha K hK
        obtain ⟨v0, v1, v2, v3, rfl⟩ := len4 hl
        clear hl
        obtain ⟨kh0, kh1, kh2, kh3, _⟩ := hd
        obtain rfl : v0 = .agg #[.float .f64 x, .float .f64 y] := kh0
        obtain rfl : v1 = .agg #[.float .f32 (el l i).1, .float .f32 (el l i).2] := kh1
        obtain ⟨p2, q2, rfl, kf2_0, kf2_1⟩ := kh2
        obtain ⟨r6, k6, rfl, kf3_0, kf3_1⟩ := kh3
        clear ha
        simp only [fs, fo, fz, Act.put, s1, s2, s3] at hK ⊢
        replace B2 := hb.blk B2 (fun h => h)
        replace B3 := hb.blk B3 (fun h => h)
        replace B4 := hb.blk B4 (fun h => h)
        replace B5 := hb.blk B5 (fun h => h)
        replace B7 := hb.blk B7 (fun h => h)
        replace HB := Aside0.mk (HB.out.trans (Below.trans (show Below w.heap.size w2 w2.drew from pw_below_drewN (Below.refl _ _) 1) (hb.belowB HB.out.size (fun _ h => h.elim))))
        clear hb
        have z0 := B5.two.1
        have z1 := B5.two.2
        have fz0 := B5.free 0
        have fz1 := B5.free 1
        refine ⟨?_⟩
        go_simp
        refine hK _ _ ?_
        clear hK
        have HG := Aside0.mk (And.intro kf3_0 kf3_1)
        clear kf2_0 kf2_1 kf3_0 kf3_1
        have CB2 : Blk ((w3.setCell ⟨w.heap.size + 1 + 1 + 1, 0, none⟩ (.float .f64 r6)).setCell ⟨w.heap.size + 1 + 1 + 1, 1, none⟩ (.float .f64 k6)) w.heap.size 38 #[.float .f32 0, .float .f32 0] := ((B2.far _ (by omega : w.heap.size ≠ w.heap.size + 1 + 1 + 1)).far _ (by omega : w.heap.size ≠ w.heap.size + 1 + 1 + 1))
        have CB3 : Blk ((w3.setCell ⟨w.heap.size + 1 + 1 + 1, 0, none⟩ (.float .f64 r6)).setCell ⟨w.heap.size + 1 + 1 + 1, 1, none⟩ (.float .f64 k6)) (w.heap.size + 1) 26 #[.float .f64 0, .float .f64 0] := ((B3.far _ (by omega : w.heap.size + 1 ≠ w.heap.size + 1 + 1 + 1)).far _ (by omega : w.heap.size + 1 ≠ w.heap.size + 1 + 1 + 1))
        have CB4 : Blk ((w3.setCell ⟨w.heap.size + 1 + 1 + 1, 0, none⟩ (.float .f64 r6)).setCell ⟨w.heap.size + 1 + 1 + 1, 1, none⟩ (.float .f64 k6)) (w.heap.size + 1 + 1) 38 #[.float .f32 r5, .float .f32 k5] := ((B4.far _ (by omega : w.heap.size + 1 + 1 ≠ w.heap.size + 1 + 1 + 1)).far _ (by omega : w.heap.size + 1 + 1 ≠ w.heap.size + 1 + 1 + 1))
        have CB5 : Blk ((w3.setCell ⟨w.heap.size + 1 + 1 + 1, 0, none⟩ (.float .f64 r6)).setCell ⟨w.heap.size + 1 + 1 + 1, 1, none⟩ (.float .f64 k6)) (w.heap.size + 1 + 1 + 1) 26 _ := (B5.set 0 (.float .f64 r6)).set 1 (.float .f64 k6)
        simp only [List.setIfInBounds_toArray, List.set_cons_zero, List.set_cons_succ] at CB5
        have CB7 : Blk ((w3.setCell ⟨w.heap.size + 1 + 1 + 1, 0, none⟩ (.float .f64 r6)).setCell ⟨w.heap.size + 1 + 1 + 1, 1, none⟩ (.float .f64 k6)) gx 38 #[.float .f32 (el l i).1, .float .f32 (el l i).2] := ((B7.far _ (by omega : gx ≠ w.heap.size + 1 + 1 + 1)).far _ (by omega : gx ≠ w.heap.size + 1 + 1 + 1))
        have HC := Aside0.mk (below_st (below_st HB.out (p := ⟨w.heap.size + 1 + 1 + 1, 0, none⟩) (by simp; try omega) (.float .f64 r6)) (p := ⟨w.heap.size + 1 + 1 + 1, 1, none⟩) (by simp; try omega) (.float .f64 k6))
        clear z0 z1 fz0 fz1 HB B2 B3 B4 B5 B7
        generalize ((w3.setCell ⟨w.heap.size + 1 + 1 + 1, 0, none⟩ (.float .f64 r6)).setCell ⟨w.heap.size + 1 + 1 + 1, 1, none⟩ (.float .f64 k6)) = w4 at CB2 CB3 CB4 CB5 CB7 HC ⊢
        have B2 := CB2
        have B3 := CB3
        have B4 := CB4
        have B5 := CB5
        have B7 := CB7
        have HB := HC
        clear HC CB2 CB3 CB4 CB5 CB7
        go_wp2
        have e1 := wk hi (by omega)
        exact ⟨⟨i + 1, r5, k5, r6, k6, congrArg (Value.int .i64) (by first | exact e1 | omega), ⟨by omega⟩, ⟨HQ.out.1, HQ.out.2, HG.out.1, HG.out.2⟩, B2, B3, B4, B5, HB⟩, by (try rw [e1]); simp [RowKit.intOf]; omega⟩
    · have hd : decide ((i : Int) < (n : Int)) = false := decide_eq_false (by omega)
      obtain ⟨q20, q21⟩ := B2.two
      obtain ⟨q30, q31⟩ := B3.two
      obtain ⟨q40, q41⟩ := B4.two
      obtain ⟨q50, q51⟩ := B5.two
      have f20 := B2.free 0
      have f21 := B2.free 1
      have f30 := B3.free 0
      have f31 := B3.free 1
      obtain rfl : i = n := by have := HI.out; omega
      go_wp2
      go_region
      obtain ⟨W4, e4⟩ : ∃ W4, W4 = (((wr.setCell ⟨w.heap.size, 0, none⟩ (.float .f32 a)).setCell ⟨w.heap.size, 1, none⟩ (.float .f32 b)).setCell ⟨w.heap.size + 1, 0, none⟩ (.float .f64 x)).setCell ⟨w.heap.size + 1, 1, none⟩ (.float .f64 y) := ⟨_, rfl⟩
      have C2 : Blk W4 w.heap.size 38 #[.float .f32 a, .float .f32 b] := by rw [e4]; exact ((((B2.set 0 _).set 1 _).far _ (by omega : w.heap.size ≠ w.heap.size + 1)).far _ (by omega : w.heap.size ≠ w.heap.size + 1))
      have C3 : Blk W4 (w.heap.size + 1) 26 #[.float .f64 x, .float .f64 y] := by rw [e4]; exact ((((B3.far _ (by omega : w.heap.size + 1 ≠ w.heap.size)).far _ (by omega : w.heap.size + 1 ≠ w.heap.size)).set 0 _).set 1 _)
      have HC : Aside0 (Below w.heap.size w W4) := ⟨by rw [e4]; exact below_st (below_st (below_st (below_st HB.out (by simp) _) (by simp) _) (by simp) _) (by simp) _⟩
      rw [← e4]
      clear e4 q20 q21 q30 q31 q40 q41 q50 q51 f20 f21 f30 f31 B2 B3 B4 B5 HB
      replace C2 := C2.drew
      replace C3 := C3.drew
      have hb4 : Below w.heap.size w W4.drew := by have := HC.out; exact ⟨this.os, this.tape, this.output, this.size, this.block⟩
      have HC2 := Aside0.mk hb4
      generalize W4.drew = W5 at C2 C3 HC2 ⊢
      clear hb4 HC
      obtain ⟨q20, q21⟩ := C2.two
      obtain ⟨q30, q31⟩ := C3.two
      clear C2 C3
      go_wp2
      refine ret_val ?_ rfl; simp [results, Try.results22, go_sem, q20, q21, q30, q31]
      exact ⟨⟨_, _, _, _, rfl, by rw [if_pos HL.out]; exact HS.out.1, by rw [if_pos HL.out]; exact HS.out.2.1, by rw [if_pos HL.out]; exact HS.out.2.2.1, by rw [if_pos HL.out]; exact HS.out.2.2.2⟩, HC2.out⟩
set_option maxHeartbeats 4000000 in
theorem summed_impl_big (A0 : Option Addr) (c0 : Nat) (f : Nat → Nat × Nat) (n : Nat) (w : World) (hn : 60 < n) (hm : n ≤ 1048576) :
    Calls Try.prog 22 #[.slice A0 n c0] w fun e w' => SuIs n f e ∧ Below w.heap.size w w' := by
  have HL := Aside0.mk hn
  have hg0 : decide ((n : Int) > 60) = true := decide_eq_true (by omega)
  have hg1 : 60 < n := by omega
  go_enter Try.func22, Try.ntmps22
  go_wp2
  refine ret_val ?_ rfl; simp [results, Try.results22, go_sem]
  exact ⟨⟨_, _, _, _, rfl, by rw [if_neg (by have := HL.out; omega)]; exact Same.refl _ _, by rw [if_neg (by have := HL.out; omega)]; exact Same.refl _ _, by rw [if_neg (by have := HL.out; omega)]; exact Same.refl _ _, by rw [if_neg (by have := HL.out; omega)]; exact Same.refl _ _⟩, by repeat (first | exact Below.refl _ _ | apply below_al | apply below_drewN | refine below_st ?_ (by simp; try omega) _)⟩
theorem summed_spec_all (A0 : Option Addr) (c0 : Nat) (l : List (Nat × Nat)) (f : Nat → Nat × Nat) (n : Nat) (w : World) (hr : (kw .f32).C w A0 n l) (hn : n ≤ 1048576) (hf : ∀ j : Nat, j < n → SameW .f32 (el l j) (f j)) :
    Calls Try.prog 20 #[.slice A0 n c0] w fun e w' => SuIs n f e ∧ Below w.heap.size w w' := by
  by_cases h : n ≤ 60
  · exact summed_spec A0 c0 l f n w hr h hf
  · exact summed_spec_big A0 c0 f n w (by omega) hn
theorem summed_impl_all (A0 : Option Addr) (c0 : Nat) (l : List (Nat × Nat)) (f : Nat → Nat × Nat) (n : Nat) (w : World) (hr : (kw .f32).C w A0 n l) (hn : n ≤ 1048576) (hf : ∀ j : Nat, j < n → SameW .f32 (el l j) (f j)) :
    Calls Try.prog 22 #[.slice A0 n c0] w fun e w' => SuIs n f e ∧ Below w.heap.size w w' := by
  by_cases h : n ≤ 60
  · exact summed_impl A0 c0 l f n w hr h hf
  · exact summed_impl_big A0 c0 f n w (by omega) hn
end Go.Proofs.Ytphfmcdkldcmiaa.Fl
/- A region that draws its order, its operations none of them guarded, of which all but the last only read, reckon, call or make memory: what each yields is told once, whatever the order. -/
namespace Go.Proofs.Ytphfmcdkldcmiaa.Reg
open Go Go.RowKit

section
variable {P : Program} {ops : Array Oper} {Q : Exit → Act → World → Prop} {md : Region.Mode}

/-- How many have not come up. -/
def left (listed : Array Bool) : Nat := listed.toList.countP (fun b => !b)
theorem left_set {listed : Array Bool} {i : Nat} (h : listed.getD i true = false) : left listed = left (listed.setIfInBounds i true) + 1 := by
  have hi : i < listed.size := by
    rcases Nat.lt_or_ge i listed.size with h' | h'
    · exact h'
    · simp [Array.getD, Nat.not_lt.2 h'] at h
  have hv : listed[i] = false := by simpa [Array.getD, hi] using h
  unfold left
  rw [Array.toList_setIfInBounds]
  have hl : i < listed.toList.length := by simpa using hi
  have hv' : listed.toList[i] = false := by simpa using hv
  have key : ∀ (l : List Bool) (i : Nat) (hl : i < l.length), l[i] = false → l.countP (fun b => !b) = (l.set i true).countP (fun b => !b) + 1 := by
    intro l
    induction l with
    | nil => intro i hl; simp at hl
    | cons b l ih =>
      intro i hl hv
      cases i with
      | zero =>
        obtain rfl : b = false := by simpa using hv
        simp
      | succ i =>
        have := ih i (by simpa using hl) (by simpa using hv)
        cases b <;> simp [this]
  exact key _ i hl hv'
theorem left_zero {listed : Array Bool} (h : left listed = 0) : Region.ready md ops listed = [] := by
  have hall : ∀ i, listed.getD i true = true := by
    intro i
    cases hb : listed.getD i true with
    | true => rfl
    | false => have := left_set hb; omega
  unfold Region.ready
  rw [List.filter_eq_nil_iff]
  intro i _
  simp [hall]

theorem wpAny_inv {I : Array Bool → Act → World → Prop}
    (step : ∀ listed a w, I listed a w → ∀ i ∈ Region.ready md ops listed, wpOp P ops Q i (I (listed.setIfInBounds i true)) a w)
    (done : ∀ listed a w, I listed a w → Region.ready md ops listed = [] → Q .normal a w) :
    ∀ (fuel : Nat) (listed : Array Bool) (a : Act) (w : World), listed.size = ops.size → left listed ≤ fuel → I listed a w → wpAny P md ops Q fuel listed a w := by
  intro fuel
  induction fuel with
  | zero =>
    intro listed a w hs hl hI
    have hr := left_zero (md := md) (ops := ops) (Nat.le_zero.1 hl)
    exact ⟨hr, done _ _ _ hI hr⟩
  | succ fuel ih =>
    intro listed a w hs hl hI
    refine ⟨fun hr => done _ _ _ hI hr, fun i hi => ?_⟩
    have h1 := (mem_ready.1 hi).1
    have h2 := left_set h1
    exact wpOp_mono (fun a' w' h' => ih _ a' w' (by simpa using hs) (by omega) h') (step _ _ _ hI i hi)

/-- The frame with these slots filled. -/
def fill (a : Act) (ds : List Tmp) (vs : List Value) : Act := { a with tmps := (ds.zip vs).foldl (fun t x => t.setIfInBounds x.1 x.2) a.tmps }
theorem fill_set {a : Act} : ∀ {ds : List Tmp} {vs : List Value} {i : Nat} {d : Tmp} {v : Value}, ds.Nodup → vs.length = ds.length → ds[i]? = some d → (fill a ds vs).put (some d) v = fill a ds (vs.set i v) := by
  have comm : ∀ (l : List (Tmp × Value)) (t : Array Value) (d : Tmp) (v : Value), (∀ x ∈ l, x.1 ≠ d) → (l.foldl (fun t x => t.setIfInBounds x.1 x.2) t).setIfInBounds d v = l.foldl (fun t x => t.setIfInBounds x.1 x.2) (t.setIfInBounds d v) := by
    intro l
    induction l with
    | nil => intro t d v _; rfl
    | cons x l ih =>
      intro t d v h
      simp only [List.foldl_cons]
      rw [ih _ _ _ (fun y hy => h y (List.mem_cons_of_mem _ hy)), Array.setIfInBounds_comm _ _ (h x List.mem_cons_self)]
  intro ds vs i d v hnd hl hd
  unfold fill Act.put
  simp only
  congr 1
  revert vs i a
  induction ds with
  | nil => intro a vs i hl hd; simp at hd
  | cons d0 ds ih =>
    intro a vs i hl hd
    cases vs with
    | nil => simp at hl
    | cons v0 vs =>
      obtain ⟨hn0, hn⟩ := List.nodup_cons.1 hnd
      cases i with
      | zero =>
        obtain rfl : d0 = d := by simpa using hd
        simp only [List.zip_cons_cons, List.foldl_cons, List.set_cons_zero]
        rw [comm]
        · simp [Array.setIfInBounds_setIfInBounds]
        · intro x hx he
          exact hn0 (he ▸ (List.of_mem_zip hx).1)
      | succ i =>
        simp only [List.zip_cons_cons, List.foldl_cons, List.set_cons_succ]
        exact ih (a := { a with tmps := a.tmps.setIfInBounds d0 v0 }) hn (by simpa using hl) (by simpa using hd)

/-- The operations' destinations are these, each another; none is guarded; the last one waits for all. -/
def plainB (md : Region.Mode) (ops : Array Oper) (ds : List Tmp) : Bool :=
  (ops.size == ds.length + 1) && (List.range ds.length).all (fun i => match ops[i]? with | some o => (o.dst == ds[i]?) && o.guard.isNone && o.after.all (fun e => decide (e.on < i)) | none => false) &&
  decide ds.Nodup && (match ops[ds.length]? with | some o => o.guard.isNone && o.after.all (fun e => decide (e.on < ds.length)) && (List.range ds.length).all (fun j => o.after.any fun e => Region.binds md e && e.on == j) | none => false)

/-- What the first operations yield: number i the value v, which in the world w is as V i says; a later world that keeps what there was keeps V. -/
theorem region_any {id : Nat} {a0 : Act} {w0 : World} (hm : P.follows .mixedOrders = true) (ds : List Tmp) (hds : plainB .any ops ds = true) (vs0 : List Value) (hvs0 : vs0.length = ds.length) (ha0 : fill a0 ds vs0 = a0)
    (V : Nat → Value → World → Prop) (hV : ∀ i v w w', V i v w → Below w.heap.size w w' → V i v w')
    (hstep : ∀ i, i < ds.length → ∀ oi, ops[i]? = some oi → ∀ vs, vs.length = ds.length → ∀ w, Below w0.drew.heap.size w0.drew w → (∀ e ∈ oi.after, Region.binds .any e = true → V e.on (vs.getD e.on undef) w) →
      ∀ K : Act → World → Prop, (∀ v w', Below w.heap.size w w' → V i v w' → K ((fill a0 ds vs).put oi.dst v) w') → oi.wp P (fill a0 ds vs) w K Q)
    (hlast : ∀ o, ops[ds.length]? = some o → ∀ vs, vs.length = ds.length → ∀ w, Below w0.drew.heap.size w0.drew w → (∀ j, j < ds.length → V j (vs.getD j undef) w) → ∀ K : Act → World → Prop, (∀ a' w', Q .normal a' w' → K a' w') → o.wp P (fill a0 ds vs) w K Q) :
    (Code.region id ops true).wp P Q a0 w0 := by
  unfold plainB at hds
  simp only [Bool.and_eq_true, beq_iff_eq, decide_eq_true_eq] at hds
  obtain ⟨⟨⟨hsz, hall⟩, hnd⟩, hlst⟩ := hds
  refine wp_region_any hm ?_
  have hset : ∀ (listed : Array Bool) (i : Nat), i < listed.size → (listed.setIfInBounds i true).getD i true = true := fun listed i h => by simp [Array.getD, h]
  have hTF : ∀ (listed : Array Bool) (j : Nat), listed.getD j false = true → listed.getD j true = true := fun listed j h => by
    rcases Nat.lt_or_ge j listed.size with h' | h'
    · simpa [Array.getD, h'] using h
    · simp [Array.getD, Nat.not_lt.2 h'] at h
  refine wpAny_inv (I := fun listed a w => listed.size = ops.size ∧ if listed.getD ds.length true = true then Q .normal a w ∧ ∀ j, listed.getD j true = true else
      ∃ vs, vs.length = ds.length ∧ a = fill a0 ds vs ∧ Below w0.drew.heap.size w0.drew w ∧ ∀ j, j < ds.length → listed.getD j true = true → V j (vs.getD j undef) w) ?_ ?_ _ _ _ _ (by simp) ?_ ?_
  · intro listed a w hI i hi
    obtain ⟨hsl, hI⟩ := hI
    obtain ⟨hun, oi, hoi, haft⟩ := mem_ready.1 hi
    have hio : i < ops.size := (Array.getElem?_eq_some_iff.1 hoi).1
    have hilt : i < listed.size := by omega
    unfold wpOp
    rw [hoi]
    simp only
    by_cases hil : i = ds.length
    · subst hil
      rw [hoi] at hlst
      simp only [Bool.and_eq_true, Option.isNone_iff_eq_none] at hlst
      rw [if_pos (by simp [Region.wanted, hlst.1.1])]
      rw [if_neg (fun h => by rw [hun] at h; cases h)] at hI
      obtain ⟨vs, hl, rfl, hb, hv⟩ := hI
      have hdone : ∀ j, j < ds.length → listed.getD j true = true := fun j hj => by
        have h1 := List.all_eq_true.1 hlst.2 j (List.mem_range.2 hj)
        obtain ⟨e, he, h2⟩ := Array.any_eq_true'.1 h1
        simp only [Bool.and_eq_true, beq_iff_eq] at h2
        have h3 := haft e he h2.1
        rw [h2.2] at h3
        exact hTF _ _ h3
      refine .inl (Oper.wp_mono (fun a' w' h' => ?_) (hlast oi hoi vs hl w hb (fun j hj => hv j hj (hdone j hj)) (fun a' w' => Q .normal a' w') (fun _ _ h => h)))
      refine ⟨by simpa using hsl, ?_⟩
      rw [if_pos (hset _ _ hilt)]
      refine ⟨h', fun j => ?_⟩
      by_cases hj : j < ds.length
      · rw [getD_set_ne true (by omega)]; exact hdone j hj
      · by_cases hj2 : j = ds.length
        · subst hj2; exact hset _ _ hilt
        · have : ¬ j < (listed.setIfInBounds ds.length true).size := by simp; omega
          simp only [Array.getD, this, dif_neg, not_false_eq_true]
    · have hid : i < ds.length := by omega
      have h1 := List.all_eq_true.1 hall i (List.mem_range.2 hid)
      rw [hoi] at h1
      simp only [Bool.and_eq_true, beq_iff_eq, Option.isNone_iff_eq_none] at h1
      obtain ⟨⟨hdst, hg⟩, hon⟩ := h1
      rw [if_pos (by simp [Region.wanted, hg])]
      have hn : ¬ listed.getD ds.length true = true := fun hy => by
        rw [if_pos hy] at hI
        rw [hI.2 i] at hun
        cases hun
      rw [if_neg hn] at hI
      obtain ⟨vs, hl, rfl, hb, hv⟩ := hI
      refine .inl (Oper.wp_mono (fun a' w' h' => ?_) (hstep i hid oi hoi vs hl w hb (fun e he hbd => ?_) (fun a' w' => ∃ v, a' = (fill a0 ds vs).put oi.dst v ∧ Below w.heap.size w w' ∧ V i v w') (fun v w' hb hv => ⟨v, rfl, hb, hv⟩)))
      · obtain ⟨v, rfl, hbw, hvi⟩ := h'
        refine ⟨by simpa using hsl, ?_⟩
        rw [getD_set_ne true hil, if_neg hn]
        have hdi : ds[i]? = some ds[i] := List.getElem?_eq_getElem hid
        rw [hdst, hdi, fill_set hnd hl hdi]
        refine ⟨_, by simpa using hl, rfl, hb.trans (hbw.mono hb.size), fun j hj hjl => ?_⟩
        by_cases hji : i = j
        · subst hji
          rw [List.getD_eq_getElem?_getD, List.getElem?_set_self (by omega)]
          exact hvi
        · rw [getD_set_ne true hji] at hjl
          have := hV j _ _ _ (hv j hj hjl) hbw
          rw [List.getD_eq_getElem?_getD, List.getElem?_set_ne hji, ← List.getD_eq_getElem?_getD]
          exact this
      · have hlt : e.on < ds.length := by
          have := Array.all_eq_true_iff_forall_mem.1 hon e he
          have : e.on < i := by simpa using this
          omega
        exact hv e.on hlt (hTF _ _ (haft e he hbd))
  · intro listed a w hI hr
    obtain ⟨hsl, hI⟩ := hI
    have hall' : listed.getD ds.length true = true := by
      -- the first that has not come up could come up
      refine Classical.byContradiction fun hn => ?_
      have hn' : listed.getD ds.length true = false := by simpa using hn
      have hleast : ∀ m, m ≤ ds.length → listed.getD m true = false → ∃ i, listed.getD i true = false ∧ ∀ j, j < i → listed.getD j true = true := by
        intro m
        induction m using Nat.strongRecOn with
        | _ m ih =>
          intro hm hmf
          by_cases hex : ∃ j, j < m ∧ listed.getD j true = false
          · obtain ⟨j, hj, hjf⟩ := hex
            exact ih j hj (by omega) hjf
          · refine ⟨m, hmf, fun j hj => ?_⟩
            cases hb : listed.getD j true with
            | true => rfl
            | false => exact absurd ⟨j, hj, hb⟩ hex
      obtain ⟨i, hif, hil⟩ := hleast _ (Nat.le_refl _) hn'
      have hi : i < listed.size := by
        rcases Nat.lt_or_ge i listed.size with h' | h'
        · exact h'
        · simp [Array.getD, Nat.not_lt.2 h'] at hif
      have hTF' : ∀ j, j < i → listed.getD j false = true := fun j hj => by
        have := hil j hj
        have hj' : j < listed.size := by omega
        simpa [Array.getD, hj'] using this
      have hio : i < ops.size := by omega
      have hmem : i ∈ Region.ready .any ops listed := by
        refine mem_ready.2 ⟨hif, ops[i], Array.getElem?_eq_getElem hio, fun e he _ => hTF' e.on ?_⟩
        by_cases hid : i < ds.length
        · have h1 := List.all_eq_true.1 hall i (List.mem_range.2 hid)
          rw [Array.getElem?_eq_getElem hio] at h1
          simp only [Bool.and_eq_true] at h1
          have := Array.all_eq_true_iff_forall_mem.1 h1.2 e he
          simpa using this
        · obtain rfl : i = ds.length := by omega
          rw [Array.getElem?_eq_getElem hio] at hlst
          simp only [Bool.and_eq_true] at hlst
          have := Array.all_eq_true_iff_forall_mem.1 hlst.1.2 e he
          simpa using this
      rw [hr] at hmem
      cases hmem
    rw [if_pos hall'] at hI
    exact hI.1
  · unfold left
    exact Nat.le_trans List.countP_le_length (by simp)
  · refine ⟨by simp, ?_⟩
    have hf : ∀ j, j < ops.size → (Array.replicate ops.size false).getD j true = false := fun j hj => by simp [Array.getD, hj]
    rw [if_neg (by rw [hf _ (by omega)]; simp)]
    refine ⟨vs0, hvs0, ha0.symm, Below.refl _ _, fun j hj hjl => ?_⟩
    rw [hf j (by omega)] at hjl
    cases hjl
end

/-! ### The same, told along the list of the operations -/
section
variable {P : Program} {Q : Exit → Act → World → Prop}
def predAt (Vs : List (Value → World → Prop)) (j : Nat) : Value → World → Prop := Vs.getD j (fun _ _ => True)
/-- The facts of these numbers. -/
def Known (Vs : List (Value → World → Prop)) (vs : List Value) (w : World) : List Nat → Prop
  | [] => True
  | j :: js => predAt Vs j (vs.getD j undef) w ∧ Known Vs vs w js
theorem known_of {Vs : List (Value → World → Prop)} {vs : List Value} {w : World} {l : List Nat} (h : ∀ j ∈ l, predAt Vs j (vs.getD j undef) w) : Known Vs vs w l := by
  induction l with
  | nil => trivial
  | cons j js ih => exact ⟨h j List.mem_cons_self, ih (fun k hk => h k (List.mem_cons_of_mem _ hk))⟩
/-- The numbers that an operation waits for. -/
def deps (o : Oper) : List Nat := (o.after.toList.filter fun e => Region.binds .any e).map (·.on)
/-- A goal that no tactic looks into. -/
structure Still (p : Prop) : Prop where mk :: (out : p)
def StepOk (P : Program) (Q : Exit → Act → World → Prop) (a0 : Act) (W : World) (ds : List Tmp) (Vs : List (Value → World → Prop)) (i : Nat) (o : Oper) : Prop :=
  ∀ vs : List Value, vs.length = ds.length → ∀ w, Below W.heap.size W w → Known Vs vs w (deps o) →
    ∀ K : Act → World → Prop, (∀ v w', Below w.heap.size w w' → predAt Vs i v w' → K ((fill a0 ds vs).put o.dst v) w') → Still (o.wp P (fill a0 ds vs) w K Q)
def seqFrom : Nat → List Tmp → List Nat
  | _, [] => []
  | k, _ :: r => k :: seqFrom (k + 1) r
theorem mem_seqFrom : ∀ {ds : List Tmp} {k j : Nat}, j ∈ seqFrom k ds → k ≤ j ∧ j < k + ds.length := by
  intro ds
  induction ds with
  | nil => intro k j h; cases h
  | cons d r ih =>
    intro k j h
    rcases List.mem_cons.1 h with rfl | h
    · simp
    · have := ih h
      simp only [List.length_cons]
      omega
def LastOk (P : Program) (Q : Exit → Act → World → Prop) (a0 : Act) (W : World) (ds : List Tmp) (Vs : List (Value → World → Prop)) (o : Oper) : Prop :=
  ∀ vs : List Value, vs.length = ds.length → ∀ w, Below W.heap.size W w → Known Vs vs w (seqFrom 0 ds) →
    ∀ K : Act → World → Prop, (∀ a' w', Q .normal a' w' → K a' w') → Still (o.wp P (fill a0 ds vs) w K Q)
def StepsOk (P : Program) (Q : Exit → Act → World → Prop) (a0 : Act) (W : World) (ds : List Tmp) (Vs : List (Value → World → Prop)) : Nat → List Oper → Prop
  | _, [] => True
  | _, [o] => LastOk P Q a0 W ds Vs o
  | i, o :: o' :: r => StepOk P Q a0 W ds Vs i o ∧ StepsOk P Q a0 W ds Vs (i + 1) (o' :: r)
def StableAll : List (Value → World → Prop) → Prop
  | [] => True
  | V :: r => (∀ v w w', V v w → Below w.heap.size w w' → V v w') ∧ StableAll r
theorem stable_at {Vs : List (Value → World → Prop)} (h : StableAll Vs) : ∀ i v w w', predAt Vs i v w → Below w.heap.size w w' → predAt Vs i v w' := by
  induction Vs with
  | nil => intro i v w w' _ _; simp [predAt]
  | cons V r ih =>
    intro i v w w' hv hb
    cases i with
    | zero => exact h.1 v w w' hv hb
    | succ i => exact ih h.2 i v w w' hv hb
theorem steps_at {a0 : Act} {W : World} {ds : List Tmp} {Vs : List (Value → World → Prop)} : ∀ {l : List Oper} {k : Nat}, StepsOk P Q a0 W ds Vs k l →
    (∀ i o, l[i]? = some o → i + 1 < l.length → StepOk P Q a0 W ds Vs (k + i) o) ∧ (∀ o, l[l.length - 1]? = some o → LastOk P Q a0 W ds Vs o) := by
  intro l
  induction l with
  | nil => intro k _; exact ⟨fun i o h => by simp at h, fun o h => by simp at h⟩
  | cons o0 r ih =>
    intro k h
    cases r with
    | nil =>
      refine ⟨fun i o _ hl => by simp at hl, fun o ho => ?_⟩
      obtain rfl : o0 = o := by simpa using ho
      exact h
    | cons o1 r =>
      obtain ⟨h1, h2⟩ := ih h.2
      refine ⟨fun i o ho hl => ?_, fun o ho => h2 o (by simpa using ho)⟩
      cases i with
      | zero =>
        obtain rfl : o0 = o := by simpa using ho
        exact h.1
      | succ i =>
        have := h1 i o (by simpa using ho) (by simpa using hl)
        rwa [show k + 1 + i = k + (i + 1) by omega] at this

theorem steps_one {a0 : Act} {W : World} {ds : List Tmp} {Vs : List (Value → World → Prop)} {k : Nat} {o : Oper} (h : LastOk P Q a0 W ds Vs o) : StepsOk P Q a0 W ds Vs k [o] := h
theorem steps_cons {a0 : Act} {W : World} {ds : List Tmp} {Vs : List (Value → World → Prop)} {k : Nat} {o o' : Oper} {r : List Oper} (h : StepOk P Q a0 W ds Vs k o) (hr : StepsOk P Q a0 W ds Vs (k + 1) (o' :: r)) : StepsOk P Q a0 W ds Vs k (o :: o' :: r) := ⟨h, hr⟩
theorem region_list {id : Nat} {l : List Oper} {a0 : Act} {w0 : World} (hm : P.follows .mixedOrders = true) (ds : List Tmp) (vs0 : List Value) (Vs : List (Value → World → Prop))
    (hds : plainB .any l.toArray ds = true) (hvs0 : vs0.length = ds.length) (ha0 : fill a0 ds vs0 = a0) (hV : StableAll Vs) (h : StepsOk P Q a0 w0.drew ds Vs 0 l) : (Code.region id l.toArray true).wp P Q a0 w0 := by
  obtain ⟨h1, h2⟩ := steps_at h
  have hlen : l.length = ds.length + 1 := by
    unfold plainB at hds
    simp only [Bool.and_eq_true, beq_iff_eq] at hds
    simpa using hds.1.1.1
  refine region_any hm ds hds vs0 hvs0 ha0 (predAt Vs) (stable_at hV) ?_ ?_
  · intro i hi oi hoi vs hl w hb hd K hK
    have := h1 i oi (by simpa using hoi) (by omega)
    rw [Nat.zero_add] at this
    refine (this vs hl w hb (known_of fun j hj => ?_) K hK).out
    obtain ⟨e, he, rfl⟩ := List.mem_map.1 hj
    obtain ⟨he1, he2⟩ := List.mem_filter.1 he
    exact hd e (by simpa using he1) he2
  · intro o ho vs hl w hb hd K hK
    refine (h2 o ?_ vs hl w hb (known_of fun j hj => hd j (by have := (mem_seqFrom hj).2; omega)) K hK).out
    rw [hlen, Nat.add_sub_cancel]
    simpa using ho
end
theorem len1 {vs : List Value} (h : vs.length = 1) : ∃ v0, vs = [v0] := by
  match vs, h with
  | [v0], _ => exact ⟨v0, rfl⟩
theorem len2 {vs : List Value} (h : vs.length = 2) : ∃ v0 v1, vs = [v0, v1] := by
  match vs, h with
  | v :: r, h =>
    obtain ⟨v0, rfl⟩ := len1 (vs := r) (by simpa using h)
    exact ⟨v, v0, rfl⟩
theorem len3 {vs : List Value} (h : vs.length = 3) : ∃ v0 v1 v2, vs = [v0, v1, v2] := by
  match vs, h with
  | v :: r, h =>
    obtain ⟨v0, v1, rfl⟩ := len2 (vs := r) (by simpa using h)
    exact ⟨v, v0, v1, rfl⟩
theorem len4 {vs : List Value} (h : vs.length = 4) : ∃ v0 v1 v2 v3, vs = [v0, v1, v2, v3] := by
  match vs, h with
  | v :: r, h =>
    obtain ⟨v0, v1, v2, rfl⟩ := len3 (vs := r) (by simpa using h)
    exact ⟨v, v0, v1, v2, rfl⟩
theorem len5 {vs : List Value} (h : vs.length = 5) : ∃ v0 v1 v2 v3 v4, vs = [v0, v1, v2, v3, v4] := by
  match vs, h with
  | v :: r, h =>
    obtain ⟨v0, v1, v2, v3, rfl⟩ := len4 (vs := r) (by simpa using h)
    exact ⟨v, v0, v1, v2, v3, rfl⟩
theorem len6 {vs : List Value} (h : vs.length = 6) : ∃ v0 v1 v2 v3 v4 v5, vs = [v0, v1, v2, v3, v4, v5] := by
  match vs, h with
  | v :: r, h =>
    obtain ⟨v0, v1, v2, v3, v4, rfl⟩ := len5 (vs := r) (by simpa using h)
    exact ⟨v, v0, v1, v2, v3, v4, rfl⟩
theorem len7 {vs : List Value} (h : vs.length = 7) : ∃ v0 v1 v2 v3 v4 v5 v6, vs = [v0, v1, v2, v3, v4, v5, v6] := by
  match vs, h with
  | v :: r, h =>
    obtain ⟨v0, v1, v2, v3, v4, v5, rfl⟩ := len6 (vs := r) (by simpa using h)
    exact ⟨v, v0, v1, v2, v3, v4, v5, rfl⟩
theorem len8 {vs : List Value} (h : vs.length = 8) : ∃ v0 v1 v2 v3 v4 v5 v6 v7, vs = [v0, v1, v2, v3, v4, v5, v6, v7] := by
  match vs, h with
  | v :: r, h =>
    obtain ⟨v0, v1, v2, v3, v4, v5, v6, rfl⟩ := len7 (vs := r) (by simpa using h)
    exact ⟨v, v0, v1, v2, v3, v4, v5, v6, rfl⟩
theorem len9 {vs : List Value} (h : vs.length = 9) : ∃ v0 v1 v2 v3 v4 v5 v6 v7 v8, vs = [v0, v1, v2, v3, v4, v5, v6, v7, v8] := by
  match vs, h with
  | v :: r, h =>
    obtain ⟨v0, v1, v2, v3, v4, v5, v6, v7, rfl⟩ := len8 (vs := r) (by simpa using h)
    exact ⟨v, v0, v1, v2, v3, v4, v5, v6, v7, rfl⟩
theorem len10 {vs : List Value} (h : vs.length = 10) : ∃ v0 v1 v2 v3 v4 v5 v6 v7 v8 v9, vs = [v0, v1, v2, v3, v4, v5, v6, v7, v8, v9] := by
  match vs, h with
  | v :: r, h =>
    obtain ⟨v0, v1, v2, v3, v4, v5, v6, v7, v8, rfl⟩ := len9 (vs := r) (by simpa using h)
    exact ⟨v, v0, v1, v2, v3, v4, v5, v6, v7, v8, rfl⟩
theorem len11 {vs : List Value} (h : vs.length = 11) : ∃ v0 v1 v2 v3 v4 v5 v6 v7 v8 v9 v10, vs = [v0, v1, v2, v3, v4, v5, v6, v7, v8, v9, v10] := by
  match vs, h with
  | v :: r, h =>
    obtain ⟨v0, v1, v2, v3, v4, v5, v6, v7, v8, v9, rfl⟩ := len10 (vs := r) (by simpa using h)
    exact ⟨v, v0, v1, v2, v3, v4, v5, v6, v7, v8, v9, rfl⟩
theorem len12 {vs : List Value} (h : vs.length = 12) : ∃ v0 v1 v2 v3 v4 v5 v6 v7 v8 v9 v10 v11, vs = [v0, v1, v2, v3, v4, v5, v6, v7, v8, v9, v10, v11] := by
  match vs, h with
  | v :: r, h =>
    obtain ⟨v0, v1, v2, v3, v4, v5, v6, v7, v8, v9, v10, rfl⟩ := len11 (vs := r) (by simpa using h)
    exact ⟨v, v0, v1, v2, v3, v4, v5, v6, v7, v8, v9, v10, rfl⟩
theorem len13 {vs : List Value} (h : vs.length = 13) : ∃ v0 v1 v2 v3 v4 v5 v6 v7 v8 v9 v10 v11 v12, vs = [v0, v1, v2, v3, v4, v5, v6, v7, v8, v9, v10, v11, v12] := by
  match vs, h with
  | v :: r, h =>
    obtain ⟨v0, v1, v2, v3, v4, v5, v6, v7, v8, v9, v10, v11, rfl⟩ := len12 (vs := r) (by simpa using h)
    exact ⟨v, v0, v1, v2, v3, v4, v5, v6, v7, v8, v9, v10, v11, rfl⟩
theorem len14 {vs : List Value} (h : vs.length = 14) : ∃ v0 v1 v2 v3 v4 v5 v6 v7 v8 v9 v10 v11 v12 v13, vs = [v0, v1, v2, v3, v4, v5, v6, v7, v8, v9, v10, v11, v12, v13] := by
  match vs, h with
  | v :: r, h =>
    obtain ⟨v0, v1, v2, v3, v4, v5, v6, v7, v8, v9, v10, v11, v12, rfl⟩ := len13 (vs := r) (by simpa using h)
    exact ⟨v, v0, v1, v2, v3, v4, v5, v6, v7, v8, v9, v10, v11, v12, rfl⟩
theorem len15 {vs : List Value} (h : vs.length = 15) : ∃ v0 v1 v2 v3 v4 v5 v6 v7 v8 v9 v10 v11 v12 v13 v14, vs = [v0, v1, v2, v3, v4, v5, v6, v7, v8, v9, v10, v11, v12, v13, v14] := by
  match vs, h with
  | v :: r, h =>
    obtain ⟨v0, v1, v2, v3, v4, v5, v6, v7, v8, v9, v10, v11, v12, v13, rfl⟩ := len14 (vs := r) (by simpa using h)
    exact ⟨v, v0, v1, v2, v3, v4, v5, v6, v7, v8, v9, v10, v11, v12, v13, rfl⟩
theorem len16 {vs : List Value} (h : vs.length = 16) : ∃ v0 v1 v2 v3 v4 v5 v6 v7 v8 v9 v10 v11 v12 v13 v14 v15, vs = [v0, v1, v2, v3, v4, v5, v6, v7, v8, v9, v10, v11, v12, v13, v14, v15] := by
  match vs, h with
  | v :: r, h =>
    obtain ⟨v0, v1, v2, v3, v4, v5, v6, v7, v8, v9, v10, v11, v12, v13, v14, rfl⟩ := len15 (vs := r) (by simpa using h)
    exact ⟨v, v0, v1, v2, v3, v4, v5, v6, v7, v8, v9, v10, v11, v12, v13, v14, rfl⟩
theorem len17 {vs : List Value} (h : vs.length = 17) : ∃ v0 v1 v2 v3 v4 v5 v6 v7 v8 v9 v10 v11 v12 v13 v14 v15 v16, vs = [v0, v1, v2, v3, v4, v5, v6, v7, v8, v9, v10, v11, v12, v13, v14, v15, v16] := by
  match vs, h with
  | v :: r, h =>
    obtain ⟨v0, v1, v2, v3, v4, v5, v6, v7, v8, v9, v10, v11, v12, v13, v14, v15, rfl⟩ := len16 (vs := r) (by simpa using h)
    exact ⟨v, v0, v1, v2, v3, v4, v5, v6, v7, v8, v9, v10, v11, v12, v13, v14, v15, rfl⟩
theorem len18 {vs : List Value} (h : vs.length = 18) : ∃ v0 v1 v2 v3 v4 v5 v6 v7 v8 v9 v10 v11 v12 v13 v14 v15 v16 v17, vs = [v0, v1, v2, v3, v4, v5, v6, v7, v8, v9, v10, v11, v12, v13, v14, v15, v16, v17] := by
  match vs, h with
  | v :: r, h =>
    obtain ⟨v0, v1, v2, v3, v4, v5, v6, v7, v8, v9, v10, v11, v12, v13, v14, v15, v16, rfl⟩ := len17 (vs := r) (by simpa using h)
    exact ⟨v, v0, v1, v2, v3, v4, v5, v6, v7, v8, v9, v10, v11, v12, v13, v14, v15, v16, rfl⟩
theorem len19 {vs : List Value} (h : vs.length = 19) : ∃ v0 v1 v2 v3 v4 v5 v6 v7 v8 v9 v10 v11 v12 v13 v14 v15 v16 v17 v18, vs = [v0, v1, v2, v3, v4, v5, v6, v7, v8, v9, v10, v11, v12, v13, v14, v15, v16, v17, v18] := by
  match vs, h with
  | v :: r, h =>
    obtain ⟨v0, v1, v2, v3, v4, v5, v6, v7, v8, v9, v10, v11, v12, v13, v14, v15, v16, v17, rfl⟩ := len18 (vs := r) (by simpa using h)
    exact ⟨v, v0, v1, v2, v3, v4, v5, v6, v7, v8, v9, v10, v11, v12, v13, v14, v15, v16, v17, rfl⟩
theorem len20 {vs : List Value} (h : vs.length = 20) : ∃ v0 v1 v2 v3 v4 v5 v6 v7 v8 v9 v10 v11 v12 v13 v14 v15 v16 v17 v18 v19, vs = [v0, v1, v2, v3, v4, v5, v6, v7, v8, v9, v10, v11, v12, v13, v14, v15, v16, v17, v18, v19] := by
  match vs, h with
  | v :: r, h =>
    obtain ⟨v0, v1, v2, v3, v4, v5, v6, v7, v8, v9, v10, v11, v12, v13, v14, v15, v16, v17, v18, rfl⟩ := len19 (vs := r) (by simpa using h)
    exact ⟨v, v0, v1, v2, v3, v4, v5, v6, v7, v8, v9, v10, v11, v12, v13, v14, v15, v16, v17, v18, rfl⟩
theorem len21 {vs : List Value} (h : vs.length = 21) : ∃ v0 v1 v2 v3 v4 v5 v6 v7 v8 v9 v10 v11 v12 v13 v14 v15 v16 v17 v18 v19 v20, vs = [v0, v1, v2, v3, v4, v5, v6, v7, v8, v9, v10, v11, v12, v13, v14, v15, v16, v17, v18, v19, v20] := by
  match vs, h with
  | v :: r, h =>
    obtain ⟨v0, v1, v2, v3, v4, v5, v6, v7, v8, v9, v10, v11, v12, v13, v14, v15, v16, v17, v18, v19, rfl⟩ := len20 (vs := r) (by simpa using h)
    exact ⟨v, v0, v1, v2, v3, v4, v5, v6, v7, v8, v9, v10, v11, v12, v13, v14, v15, v16, v17, v18, v19, rfl⟩
theorem len22 {vs : List Value} (h : vs.length = 22) : ∃ v0 v1 v2 v3 v4 v5 v6 v7 v8 v9 v10 v11 v12 v13 v14 v15 v16 v17 v18 v19 v20 v21, vs = [v0, v1, v2, v3, v4, v5, v6, v7, v8, v9, v10, v11, v12, v13, v14, v15, v16, v17, v18, v19, v20, v21] := by
  match vs, h with
  | v :: r, h =>
    obtain ⟨v0, v1, v2, v3, v4, v5, v6, v7, v8, v9, v10, v11, v12, v13, v14, v15, v16, v17, v18, v19, v20, rfl⟩ := len21 (vs := r) (by simpa using h)
    exact ⟨v, v0, v1, v2, v3, v4, v5, v6, v7, v8, v9, v10, v11, v12, v13, v14, v15, v16, v17, v18, v19, v20, rfl⟩
theorem len23 {vs : List Value} (h : vs.length = 23) : ∃ v0 v1 v2 v3 v4 v5 v6 v7 v8 v9 v10 v11 v12 v13 v14 v15 v16 v17 v18 v19 v20 v21 v22, vs = [v0, v1, v2, v3, v4, v5, v6, v7, v8, v9, v10, v11, v12, v13, v14, v15, v16, v17, v18, v19, v20, v21, v22] := by
  match vs, h with
  | v :: r, h =>
    obtain ⟨v0, v1, v2, v3, v4, v5, v6, v7, v8, v9, v10, v11, v12, v13, v14, v15, v16, v17, v18, v19, v20, v21, rfl⟩ := len22 (vs := r) (by simpa using h)
    exact ⟨v, v0, v1, v2, v3, v4, v5, v6, v7, v8, v9, v10, v11, v12, v13, v14, v15, v16, v17, v18, v19, v20, v21, rfl⟩
theorem len24 {vs : List Value} (h : vs.length = 24) : ∃ v0 v1 v2 v3 v4 v5 v6 v7 v8 v9 v10 v11 v12 v13 v14 v15 v16 v17 v18 v19 v20 v21 v22 v23, vs = [v0, v1, v2, v3, v4, v5, v6, v7, v8, v9, v10, v11, v12, v13, v14, v15, v16, v17, v18, v19, v20, v21, v22, v23] := by
  match vs, h with
  | v :: r, h =>
    obtain ⟨v0, v1, v2, v3, v4, v5, v6, v7, v8, v9, v10, v11, v12, v13, v14, v15, v16, v17, v18, v19, v20, v21, v22, rfl⟩ := len23 (vs := r) (by simpa using h)
    exact ⟨v, v0, v1, v2, v3, v4, v5, v6, v7, v8, v9, v10, v11, v12, v13, v14, v15, v16, v17, v18, v19, v20, v21, v22, rfl⟩
theorem len25 {vs : List Value} (h : vs.length = 25) : ∃ v0 v1 v2 v3 v4 v5 v6 v7 v8 v9 v10 v11 v12 v13 v14 v15 v16 v17 v18 v19 v20 v21 v22 v23 v24, vs = [v0, v1, v2, v3, v4, v5, v6, v7, v8, v9, v10, v11, v12, v13, v14, v15, v16, v17, v18, v19, v20, v21, v22, v23, v24] := by
  match vs, h with
  | v :: r, h =>
    obtain ⟨v0, v1, v2, v3, v4, v5, v6, v7, v8, v9, v10, v11, v12, v13, v14, v15, v16, v17, v18, v19, v20, v21, v22, v23, rfl⟩ := len24 (vs := r) (by simpa using h)
    exact ⟨v, v0, v1, v2, v3, v4, v5, v6, v7, v8, v9, v10, v11, v12, v13, v14, v15, v16, v17, v18, v19, v20, v21, v22, v23, rfl⟩
theorem len26 {vs : List Value} (h : vs.length = 26) : ∃ v0 v1 v2 v3 v4 v5 v6 v7 v8 v9 v10 v11 v12 v13 v14 v15 v16 v17 v18 v19 v20 v21 v22 v23 v24 v25, vs = [v0, v1, v2, v3, v4, v5, v6, v7, v8, v9, v10, v11, v12, v13, v14, v15, v16, v17, v18, v19, v20, v21, v22, v23, v24, v25] := by
  match vs, h with
  | v :: r, h =>
    obtain ⟨v0, v1, v2, v3, v4, v5, v6, v7, v8, v9, v10, v11, v12, v13, v14, v15, v16, v17, v18, v19, v20, v21, v22, v23, v24, rfl⟩ := len25 (vs := r) (by simpa using h)
    exact ⟨v, v0, v1, v2, v3, v4, v5, v6, v7, v8, v9, v10, v11, v12, v13, v14, v15, v16, v17, v18, v19, v20, v21, v22, v23, v24, rfl⟩
end Go.Proofs.Ytphfmcdkldcmiaa.Reg
/- The program's product of two complex numbers. -/
namespace Go.Proofs.Ytphfmcdkldcmiaa.Fl
open Go Go.RowKit Go.Proofs.Ytphfmcdkldcmiaa.Reg
set_option linter.unusedVariables false
set_option linter.unusedSimpArgs false

set_option maxHeartbeats 8000000 in
theorem times_impl (a b c d : Nat) (w : World) : Calls Try.prog 50 #[.agg #[.float .f64 a, .float .f64 b], .agg #[.float .f64 c, .float .f64 d]] w (PairOf .f64 (fP .sub .f64 (fP .mul .f64 a c) (fP .mul .f64 b d)) (fP .add .f64 (fP .mul .f64 a d) (fP .mul .f64 b c)) w) := by
  go_enter Try.func50, Try.ntmps50
  go_upto_region 1 with fail
  have hb0 := below_al (below_al (below_al (Below.refl w.heap.size w) (.cells #[.float .f64 a, .float .f64 b] 26)) (.cells #[.float .f64 c, .float .f64 d] 26)) (.cells #[.float .f64 0, .float .f64 0] 26)
  have c0 : (((w.alloc (.cells #[.float .f64 a, .float .f64 b] 26)).alloc (.cells #[.float .f64 c, .float .f64 d] 26)).alloc (.cells #[.float .f64 0, .float .f64 0] 26)).cell? ⟨w.heap.size, 0, none⟩ = some (.float .f64 a) := by go_simp
  have c1 : (((w.alloc (.cells #[.float .f64 a, .float .f64 b] 26)).alloc (.cells #[.float .f64 c, .float .f64 d] 26)).alloc (.cells #[.float .f64 0, .float .f64 0] 26)).cell? ⟨w.heap.size, 1, none⟩ = some (.float .f64 b) := by go_simp
  have c2 : (((w.alloc (.cells #[.float .f64 a, .float .f64 b] 26)).alloc (.cells #[.float .f64 c, .float .f64 d] 26)).alloc (.cells #[.float .f64 0, .float .f64 0] 26)).cell? ⟨w.heap.size + 1, 0, none⟩ = some (.float .f64 c) := by go_simp
  have c3 : (((w.alloc (.cells #[.float .f64 a, .float .f64 b] 26)).alloc (.cells #[.float .f64 c, .float .f64 d] 26)).alloc (.cells #[.float .f64 0, .float .f64 0] 26)).cell? ⟨w.heap.size + 1, 1, none⟩ = some (.float .f64 d) := by go_simp
  have hB : (((w.alloc (.cells #[.float .f64 a, .float .f64 b] 26)).alloc (.cells #[.float .f64 c, .float .f64 d] 26)).alloc (.cells #[.float .f64 0, .float .f64 0] 26)).heap[w.heap.size + 1 + 1]? = some (.cells #[.float .f64 0, .float .f64 0] 26 (0, 0)) := heap_alloc_at _ _ _ (by simp)
  have l1 : w.heap.size + 1 + 1 < (((w.alloc (.cells #[.float .f64 a, .float .f64 b] 26)).alloc (.cells #[.float .f64 c, .float .f64 d] 26)).alloc (.cells #[.float .f64 0, .float .f64 0] 26)).heap.size := by simp
  generalize ((w.alloc (.cells #[.float .f64 a, .float .f64 b] 26)).alloc (.cells #[.float .f64 c, .float .f64 d] 26)).alloc (.cells #[.float .f64 0, .float .f64 0] 26) = W0 at hb0 c0 c1 c2 c3 hB l1 ⊢
  refine region_list (by kernel_rfl) [5, 6, 7, 8, 9, 10, 11, 12, 13, 14, 15, 16, 17, 18, 19, 20, 21, 22, 23, 24, 25, 26, 27] [undef, undef, undef, undef, undef, undef, undef, undef, undef, undef, undef, undef, undef, undef, undef, undef, undef, undef, undef, undef, undef, undef, undef] [fun v _ => v = .pointer (some ⟨w.heap.size, 0, none⟩),
      fun v _ => v = .float .f64 a,
      fun v _ => v = .pointer (some ⟨w.heap.size + 1, 0, none⟩),
      fun v _ => v = .float .f64 c,
      fun v _ => ∃ m : Nat, v = .float .f64 m ∧ Same .f64 m (fP .mul .f64 a c),
      fun v _ => v = .pointer (some ⟨w.heap.size, 1, none⟩),
      fun v _ => v = .float .f64 b,
      fun v _ => v = .pointer (some ⟨w.heap.size + 1, 1, none⟩),
      fun v _ => v = .float .f64 d,
      fun v _ => ∃ m : Nat, v = .float .f64 m ∧ Same .f64 m (fP .mul .f64 b d),
      fun v _ => ∃ m : Nat, v = .float .f64 m ∧ Same .f64 m (fP .sub .f64 (fP .mul .f64 a c) (fP .mul .f64 b d)),
      fun v _ => v = .pointer (some ⟨w.heap.size, 0, none⟩),
      fun v _ => v = .float .f64 a,
      fun v _ => v = .pointer (some ⟨w.heap.size + 1, 1, none⟩),
      fun v _ => v = .float .f64 d,
      fun v _ => ∃ m : Nat, v = .float .f64 m ∧ Same .f64 m (fP .mul .f64 a d),
      fun v _ => v = .pointer (some ⟨w.heap.size, 1, none⟩),
      fun v _ => v = .float .f64 b,
      fun v _ => v = .pointer (some ⟨w.heap.size + 1, 0, none⟩),
      fun v _ => v = .float .f64 c,
      fun v _ => ∃ m : Nat, v = .float .f64 m ∧ Same .f64 m (fP .mul .f64 b c),
      fun v _ => ∃ m : Nat, v = .float .f64 m ∧ Same .f64 m (fP .add .f64 (fP .mul .f64 a d) (fP .mul .f64 b c)),
      fun v _ => ∃ r i : Nat, v = .agg #[.float .f64 r, .float .f64 i] ∧ Same .f64 r (fP .sub .f64 (fP .mul .f64 a c) (fP .mul .f64 b d)) ∧ Same .f64 i (fP .add .f64 (fP .mul .f64 a d) (fP .mul .f64 b c))] (by kernel_rfl) rfl (by kernel_rfl)
    ⟨fun _ _ _ h _ => h, fun _ _ _ h _ => h, fun _ _ _ h _ => h, fun _ _ _ h _ => h, fun _ _ _ h _ => h, fun _ _ _ h _ => h, fun _ _ _ h _ => h, fun _ _ _ h _ => h, fun _ _ _ h _ => h, fun _ _ _ h _ => h, fun _ _ _ h _ => h, fun _ _ _ h _ => h, fun _ _ _ h _ => h, fun _ _ _ h _ => h, fun _ _ _ h _ => h, fun _ _ _ h _ => h, fun _ _ _ h _ => h, fun _ _ _ h _ => h, fun _ _ _ h _ => h, fun _ _ _ h _ => h, fun _ _ _ h _ => h, fun _ _ _ h _ => h, fun _ _ _ h _ => h, trivial⟩ (steps_cons ?_ (steps_cons ?_ (steps_cons ?_ (steps_cons ?_ (steps_cons ?_ (steps_cons ?_ (steps_cons ?_ (steps_cons ?_ (steps_cons ?_ (steps_cons ?_ (steps_cons ?_ (steps_cons ?_ (steps_cons ?_ (steps_cons ?_ (steps_cons ?_ (steps_cons ?_ (steps_cons ?_ (steps_cons ?_ (steps_cons ?_ (steps_cons ?_ (steps_cons ?_ (steps_cons ?_ (steps_cons ?_ (steps_one ?_))))))))))))))))))))))))
  · intro vs hl
    obtain ⟨v0, v1, v2, v3, v4, v5, v6, v7, v8, v9, v10, v11, v12, v13, v14, v15, v16, v17, v18, v19, v20, v21, v22, rfl⟩ := len23 hl
    clear hl
    intro w1 hb hd K hK
    simp only [fill, Act.put, List.zip_cons_cons, List.zip_nil_right, List.zip_nil_left, List.foldl_cons, List.foldl_nil, List.setIfInBounds_toArray, List.set_cons_zero, List.set_cons_succ] at hK ⊢
    refine ⟨?_⟩
    go_simp
    exact hK _ _ (Below.refl _ _) rfl
  · intro vs hl
    obtain ⟨v0, v1, v2, v3, v4, v5, v6, v7, v8, v9, v10, v11, v12, v13, v14, v15, v16, v17, v18, v19, v20, v21, v22, rfl⟩ := len23 hl
    clear hl
    intro w1 hb hd K hK
    obtain ⟨h0, _⟩ := hd
    obtain rfl : v0 = .pointer (some ⟨w.heap.size, 0, none⟩) := h0
    have e : w1.cell? ⟨w.heap.size, 0, none⟩ = some (.float .f64 a) := (hb.cell (p := ⟨w.heap.size, 0, none⟩) (by simp; omega)).trans c0
    simp only [fill, Act.put, List.zip_cons_cons, List.zip_nil_right, List.zip_nil_left, List.foldl_cons, List.foldl_nil, List.setIfInBounds_toArray, List.set_cons_zero, List.set_cons_succ] at hK ⊢
    refine ⟨?_⟩
    go_simp
    exact hK _ _ (Below.refl _ _) rfl
  · intro vs hl
    obtain ⟨v0, v1, v2, v3, v4, v5, v6, v7, v8, v9, v10, v11, v12, v13, v14, v15, v16, v17, v18, v19, v20, v21, v22, rfl⟩ := len23 hl
    clear hl
    intro w1 hb hd K hK
    simp only [fill, Act.put, List.zip_cons_cons, List.zip_nil_right, List.zip_nil_left, List.foldl_cons, List.foldl_nil, List.setIfInBounds_toArray, List.set_cons_zero, List.set_cons_succ] at hK ⊢
    refine ⟨?_⟩
    go_simp
    exact hK _ _ (Below.refl _ _) rfl
  · intro vs hl
    obtain ⟨v0, v1, v2, v3, v4, v5, v6, v7, v8, v9, v10, v11, v12, v13, v14, v15, v16, v17, v18, v19, v20, v21, v22, rfl⟩ := len23 hl
    clear hl
    intro w1 hb hd K hK
    obtain ⟨h2, _⟩ := hd
    obtain rfl : v2 = .pointer (some ⟨w.heap.size + 1, 0, none⟩) := h2
    have e : w1.cell? ⟨w.heap.size + 1, 0, none⟩ = some (.float .f64 c) := (hb.cell (p := ⟨w.heap.size + 1, 0, none⟩) (by simp; omega)).trans c2
    simp only [fill, Act.put, List.zip_cons_cons, List.zip_nil_right, List.zip_nil_left, List.foldl_cons, List.foldl_nil, List.setIfInBounds_toArray, List.set_cons_zero, List.set_cons_succ] at hK ⊢
    refine ⟨?_⟩
    go_simp
    exact hK _ _ (Below.refl _ _) rfl
  · intro vs hl
    obtain ⟨v0, v1, v2, v3, v4, v5, v6, v7, v8, v9, v10, v11, v12, v13, v14, v15, v16, v17, v18, v19, v20, v21, v22, rfl⟩ := len23 hl
    clear hl
    intro w1 hb hd K hK
    obtain ⟨h1, h3, _⟩ := hd
    obtain rfl : v1 = .float .f64 a := h1
    obtain rfl : v3 = .float .f64 c := h3
    simp only [fill, Act.put, List.zip_cons_cons, List.zip_nil_right, List.zip_nil_left, List.foldl_cons, List.foldl_nil, List.setIfInBounds_toArray, List.set_cons_zero, List.set_cons_succ] at hK ⊢
    refine ⟨?_⟩
    go_simp
    refine (by_any _ _ _).mono ?_
    rintro e w2 ⟨rfl, rfl⟩
    exact hK _ _ (below_drewN (Below.refl _ _) _) ⟨_, rfl, fAr_same (Same.refl _ _) (Same.refl _ _) _⟩
  · intro vs hl
    obtain ⟨v0, v1, v2, v3, v4, v5, v6, v7, v8, v9, v10, v11, v12, v13, v14, v15, v16, v17, v18, v19, v20, v21, v22, rfl⟩ := len23 hl
    clear hl
    intro w1 hb hd K hK
    simp only [fill, Act.put, List.zip_cons_cons, List.zip_nil_right, List.zip_nil_left, List.foldl_cons, List.foldl_nil, List.setIfInBounds_toArray, List.set_cons_zero, List.set_cons_succ] at hK ⊢
    refine ⟨?_⟩
    go_simp
    exact hK _ _ (Below.refl _ _) rfl
  · intro vs hl
    obtain ⟨v0, v1, v2, v3, v4, v5, v6, v7, v8, v9, v10, v11, v12, v13, v14, v15, v16, v17, v18, v19, v20, v21, v22, rfl⟩ := len23 hl
    clear hl
    intro w1 hb hd K hK
    obtain ⟨h5, _⟩ := hd
    obtain rfl : v5 = .pointer (some ⟨w.heap.size, 1, none⟩) := h5
    have e : w1.cell? ⟨w.heap.size, 1, none⟩ = some (.float .f64 b) := (hb.cell (p := ⟨w.heap.size, 1, none⟩) (by simp; omega)).trans c1
    simp only [fill, Act.put, List.zip_cons_cons, List.zip_nil_right, List.zip_nil_left, List.foldl_cons, List.foldl_nil, List.setIfInBounds_toArray, List.set_cons_zero, List.set_cons_succ] at hK ⊢
    refine ⟨?_⟩
    go_simp
    exact hK _ _ (Below.refl _ _) rfl
  · intro vs hl
    obtain ⟨v0, v1, v2, v3, v4, v5, v6, v7, v8, v9, v10, v11, v12, v13, v14, v15, v16, v17, v18, v19, v20, v21, v22, rfl⟩ := len23 hl
    clear hl
    intro w1 hb hd K hK
    simp only [fill, Act.put, List.zip_cons_cons, List.zip_nil_right, List.zip_nil_left, List.foldl_cons, List.foldl_nil, List.setIfInBounds_toArray, List.set_cons_zero, List.set_cons_succ] at hK ⊢
    refine ⟨?_⟩
    go_simp
    exact hK _ _ (Below.refl _ _) rfl
  · intro vs hl
    obtain ⟨v0, v1, v2, v3, v4, v5, v6, v7, v8, v9, v10, v11, v12, v13, v14, v15, v16, v17, v18, v19, v20, v21, v22, rfl⟩ := len23 hl
    clear hl
    intro w1 hb hd K hK
    obtain ⟨h7, _⟩ := hd
    obtain rfl : v7 = .pointer (some ⟨w.heap.size + 1, 1, none⟩) := h7
    have e : w1.cell? ⟨w.heap.size + 1, 1, none⟩ = some (.float .f64 d) := (hb.cell (p := ⟨w.heap.size + 1, 1, none⟩) (by simp; omega)).trans c3
    simp only [fill, Act.put, List.zip_cons_cons, List.zip_nil_right, List.zip_nil_left, List.foldl_cons, List.foldl_nil, List.setIfInBounds_toArray, List.set_cons_zero, List.set_cons_succ] at hK ⊢
    refine ⟨?_⟩
    go_simp
    exact hK _ _ (Below.refl _ _) rfl
  · intro vs hl
    obtain ⟨v0, v1, v2, v3, v4, v5, v6, v7, v8, v9, v10, v11, v12, v13, v14, v15, v16, v17, v18, v19, v20, v21, v22, rfl⟩ := len23 hl
    clear hl
    intro w1 hb hd K hK
    obtain ⟨h6, h8, _⟩ := hd
    obtain rfl : v6 = .float .f64 b := h6
    obtain rfl : v8 = .float .f64 d := h8
    simp only [fill, Act.put, List.zip_cons_cons, List.zip_nil_right, List.zip_nil_left, List.foldl_cons, List.foldl_nil, List.setIfInBounds_toArray, List.set_cons_zero, List.set_cons_succ] at hK ⊢
    refine ⟨?_⟩
    go_simp
    refine (by_any _ _ _).mono ?_
    rintro e w2 ⟨rfl, rfl⟩
    exact hK _ _ (below_drewN (Below.refl _ _) _) ⟨_, rfl, fAr_same (Same.refl _ _) (Same.refl _ _) _⟩
  · intro vs hl
    obtain ⟨v0, v1, v2, v3, v4, v5, v6, v7, v8, v9, v10, v11, v12, v13, v14, v15, v16, v17, v18, v19, v20, v21, v22, rfl⟩ := len23 hl
    clear hl
    intro w1 hb hd K hK
    obtain ⟨h4, h9, _⟩ := hd
    obtain ⟨m4, rfl, hm4⟩ := h4
    obtain ⟨m9, rfl, hm9⟩ := h9
    simp only [fill, Act.put, List.zip_cons_cons, List.zip_nil_right, List.zip_nil_left, List.foldl_cons, List.foldl_nil, List.setIfInBounds_toArray, List.set_cons_zero, List.set_cons_succ] at hK ⊢
    refine ⟨?_⟩
    go_simp
    exact hK _ _ (below_drewN (Below.refl _ _) _) ⟨_, rfl, fAr_same hm4 hm9 _⟩
  · intro vs hl
    obtain ⟨v0, v1, v2, v3, v4, v5, v6, v7, v8, v9, v10, v11, v12, v13, v14, v15, v16, v17, v18, v19, v20, v21, v22, rfl⟩ := len23 hl
    clear hl
    intro w1 hb hd K hK
    simp only [fill, Act.put, List.zip_cons_cons, List.zip_nil_right, List.zip_nil_left, List.foldl_cons, List.foldl_nil, List.setIfInBounds_toArray, List.set_cons_zero, List.set_cons_succ] at hK ⊢
    refine ⟨?_⟩
    go_simp
    exact hK _ _ (Below.refl _ _) rfl
  · intro vs hl
    obtain ⟨v0, v1, v2, v3, v4, v5, v6, v7, v8, v9, v10, v11, v12, v13, v14, v15, v16, v17, v18, v19, v20, v21, v22, rfl⟩ := len23 hl
    clear hl
    intro w1 hb hd K hK
    obtain ⟨h11, _⟩ := hd
    obtain rfl : v11 = .pointer (some ⟨w.heap.size, 0, none⟩) := h11
    have e : w1.cell? ⟨w.heap.size, 0, none⟩ = some (.float .f64 a) := (hb.cell (p := ⟨w.heap.size, 0, none⟩) (by simp; omega)).trans c0
    simp only [fill, Act.put, List.zip_cons_cons, List.zip_nil_right, List.zip_nil_left, List.foldl_cons, List.foldl_nil, List.setIfInBounds_toArray, List.set_cons_zero, List.set_cons_succ] at hK ⊢
    refine ⟨?_⟩
    go_simp
    exact hK _ _ (Below.refl _ _) rfl
  · intro vs hl
    obtain ⟨v0, v1, v2, v3, v4, v5, v6, v7, v8, v9, v10, v11, v12, v13, v14, v15, v16, v17, v18, v19, v20, v21, v22, rfl⟩ := len23 hl
    clear hl
    intro w1 hb hd K hK
    simp only [fill, Act.put, List.zip_cons_cons, List.zip_nil_right, List.zip_nil_left, List.foldl_cons, List.foldl_nil, List.setIfInBounds_toArray, List.set_cons_zero, List.set_cons_succ] at hK ⊢
    refine ⟨?_⟩
    go_simp
    exact hK _ _ (Below.refl _ _) rfl
  · intro vs hl
    obtain ⟨v0, v1, v2, v3, v4, v5, v6, v7, v8, v9, v10, v11, v12, v13, v14, v15, v16, v17, v18, v19, v20, v21, v22, rfl⟩ := len23 hl
    clear hl
    intro w1 hb hd K hK
    obtain ⟨h13, _⟩ := hd
    obtain rfl : v13 = .pointer (some ⟨w.heap.size + 1, 1, none⟩) := h13
    have e : w1.cell? ⟨w.heap.size + 1, 1, none⟩ = some (.float .f64 d) := (hb.cell (p := ⟨w.heap.size + 1, 1, none⟩) (by simp; omega)).trans c3
    simp only [fill, Act.put, List.zip_cons_cons, List.zip_nil_right, List.zip_nil_left, List.foldl_cons, List.foldl_nil, List.setIfInBounds_toArray, List.set_cons_zero, List.set_cons_succ] at hK ⊢
    refine ⟨?_⟩
    go_simp
    exact hK _ _ (Below.refl _ _) rfl
  · intro vs hl
    obtain ⟨v0, v1, v2, v3, v4, v5, v6, v7, v8, v9, v10, v11, v12, v13, v14, v15, v16, v17, v18, v19, v20, v21, v22, rfl⟩ := len23 hl
    clear hl
    intro w1 hb hd K hK
    obtain ⟨h12, h14, _⟩ := hd
    obtain rfl : v12 = .float .f64 a := h12
    obtain rfl : v14 = .float .f64 d := h14
    simp only [fill, Act.put, List.zip_cons_cons, List.zip_nil_right, List.zip_nil_left, List.foldl_cons, List.foldl_nil, List.setIfInBounds_toArray, List.set_cons_zero, List.set_cons_succ] at hK ⊢
    refine ⟨?_⟩
    go_simp
    refine (by_any _ _ _).mono ?_
    rintro e w2 ⟨rfl, rfl⟩
    exact hK _ _ (below_drewN (Below.refl _ _) _) ⟨_, rfl, fAr_same (Same.refl _ _) (Same.refl _ _) _⟩
  · intro vs hl
    obtain ⟨v0, v1, v2, v3, v4, v5, v6, v7, v8, v9, v10, v11, v12, v13, v14, v15, v16, v17, v18, v19, v20, v21, v22, rfl⟩ := len23 hl
    clear hl
    intro w1 hb hd K hK
    simp only [fill, Act.put, List.zip_cons_cons, List.zip_nil_right, List.zip_nil_left, List.foldl_cons, List.foldl_nil, List.setIfInBounds_toArray, List.set_cons_zero, List.set_cons_succ] at hK ⊢
    refine ⟨?_⟩
    go_simp
    exact hK _ _ (Below.refl _ _) rfl
  · intro vs hl
    obtain ⟨v0, v1, v2, v3, v4, v5, v6, v7, v8, v9, v10, v11, v12, v13, v14, v15, v16, v17, v18, v19, v20, v21, v22, rfl⟩ := len23 hl
    clear hl
    intro w1 hb hd K hK
    obtain ⟨h16, _⟩ := hd
    obtain rfl : v16 = .pointer (some ⟨w.heap.size, 1, none⟩) := h16
    have e : w1.cell? ⟨w.heap.size, 1, none⟩ = some (.float .f64 b) := (hb.cell (p := ⟨w.heap.size, 1, none⟩) (by simp; omega)).trans c1
    simp only [fill, Act.put, List.zip_cons_cons, List.zip_nil_right, List.zip_nil_left, List.foldl_cons, List.foldl_nil, List.setIfInBounds_toArray, List.set_cons_zero, List.set_cons_succ] at hK ⊢
    refine ⟨?_⟩
    go_simp
    exact hK _ _ (Below.refl _ _) rfl
  · intro vs hl
    obtain ⟨v0, v1, v2, v3, v4, v5, v6, v7, v8, v9, v10, v11, v12, v13, v14, v15, v16, v17, v18, v19, v20, v21, v22, rfl⟩ := len23 hl
    clear hl
    intro w1 hb hd K hK
    simp only [fill, Act.put, List.zip_cons_cons, List.zip_nil_right, List.zip_nil_left, List.foldl_cons, List.foldl_nil, List.setIfInBounds_toArray, List.set_cons_zero, List.set_cons_succ] at hK ⊢
    refine ⟨?_⟩
    go_simp
    exact hK _ _ (Below.refl _ _) rfl
  · intro vs hl
    obtain ⟨v0, v1, v2, v3, v4, v5, v6, v7, v8, v9, v10, v11, v12, v13, v14, v15, v16, v17, v18, v19, v20, v21, v22, rfl⟩ := len23 hl
    clear hl
    intro w1 hb hd K hK
    obtain ⟨h18, _⟩ := hd
    obtain rfl : v18 = .pointer (some ⟨w.heap.size + 1, 0, none⟩) := h18
    have e : w1.cell? ⟨w.heap.size + 1, 0, none⟩ = some (.float .f64 c) := (hb.cell (p := ⟨w.heap.size + 1, 0, none⟩) (by simp; omega)).trans c2
    simp only [fill, Act.put, List.zip_cons_cons, List.zip_nil_right, List.zip_nil_left, List.foldl_cons, List.foldl_nil, List.setIfInBounds_toArray, List.set_cons_zero, List.set_cons_succ] at hK ⊢
    refine ⟨?_⟩
    go_simp
    exact hK _ _ (Below.refl _ _) rfl
  · intro vs hl
    obtain ⟨v0, v1, v2, v3, v4, v5, v6, v7, v8, v9, v10, v11, v12, v13, v14, v15, v16, v17, v18, v19, v20, v21, v22, rfl⟩ := len23 hl
    clear hl
    intro w1 hb hd K hK
    obtain ⟨h17, h19, _⟩ := hd
    obtain rfl : v17 = .float .f64 b := h17
    obtain rfl : v19 = .float .f64 c := h19
    simp only [fill, Act.put, List.zip_cons_cons, List.zip_nil_right, List.zip_nil_left, List.foldl_cons, List.foldl_nil, List.setIfInBounds_toArray, List.set_cons_zero, List.set_cons_succ] at hK ⊢
    refine ⟨?_⟩
    go_simp
    refine (by_any _ _ _).mono ?_
    rintro e w2 ⟨rfl, rfl⟩
    exact hK _ _ (below_drewN (Below.refl _ _) _) ⟨_, rfl, fAr_same (Same.refl _ _) (Same.refl _ _) _⟩
  · intro vs hl
    obtain ⟨v0, v1, v2, v3, v4, v5, v6, v7, v8, v9, v10, v11, v12, v13, v14, v15, v16, v17, v18, v19, v20, v21, v22, rfl⟩ := len23 hl
    clear hl
    intro w1 hb hd K hK
    obtain ⟨h15, h20, _⟩ := hd
    obtain ⟨m15, rfl, hm15⟩ := h15
    obtain ⟨m20, rfl, hm20⟩ := h20
    simp only [fill, Act.put, List.zip_cons_cons, List.zip_nil_right, List.zip_nil_left, List.foldl_cons, List.foldl_nil, List.setIfInBounds_toArray, List.set_cons_zero, List.set_cons_succ] at hK ⊢
    refine ⟨?_⟩
    go_simp
    exact hK _ _ (below_drewN (Below.refl _ _) _) ⟨_, rfl, fAr_same hm15 hm20 _⟩
  · intro vs hl
    obtain ⟨v0, v1, v2, v3, v4, v5, v6, v7, v8, v9, v10, v11, v12, v13, v14, v15, v16, v17, v18, v19, v20, v21, v22, rfl⟩ := len23 hl
    clear hl
    intro w1 hb hd K hK
    obtain ⟨h10, h21, _⟩ := hd
    obtain ⟨m10, rfl, hm10⟩ := h10
    obtain ⟨m21, rfl, hm21⟩ := h21
    simp only [fill, Act.put, List.zip_cons_cons, List.zip_nil_right, List.zip_nil_left, List.foldl_cons, List.foldl_nil, List.setIfInBounds_toArray, List.set_cons_zero, List.set_cons_succ] at hK ⊢
    refine ⟨?_⟩
    go_simp
    exact hK _ _ (Below.refl _ _) ⟨_, _, rfl, hm10, hm21⟩
  · unfold LastOk
    intro vs hl
    obtain ⟨v0, v1, v2, v3, v4, v5, v6, v7, v8, v9, v10, v11, v12, v13, v14, v15, v16, v17, v18, v19, v20, v21, v22, rfl⟩ := len23 hl
    clear hl
    intro w1 hb hd K hK
    obtain ⟨h0, h1, h2, h3, h4, h5, h6, h7, h8, h9, h10, h11, h12, h13, h14, h15, h16, h17, h18, h19, h20, h21, h22, _⟩ := hd
    obtain ⟨r, i, rfl, hr, hi⟩ := h22
    have hbl : Below w.heap.size w w1 := Below.trans (show Below w.heap.size w W0.drew from below_drewN hb0 1) (hb.mono hb0.size)
    have hB1 : w1.heap[w.heap.size + 1 + 1]? = some (.cells #[.float .f64 0, .float .f64 0] 26 (0, 0)) := (hb.block _ l1).trans hB
    have cg0 : w1.cell? ⟨w.heap.size + 1 + 1, 0, none⟩ = some (.float .f64 0) := blk_cell hB1 0
    have cg1 : w1.cell? ⟨w.heap.size + 1 + 1, 1, none⟩ = some (.float .f64 0) := blk_cell hB1 1
    have fg0 : w1.frozen? ⟨w.heap.size + 1 + 1, 0, none⟩ = false := blk_free hB1 0
    have fg1 : w1.frozen? ⟨w.heap.size + 1 + 1, 1, none⟩ = false := blk_free hB1 1
    have y0 : ((w1.setCell ⟨w.heap.size + 1 + 1, 0, none⟩ (.float .f64 r)).setCell ⟨w.heap.size + 1 + 1, 1, none⟩ (.float .f64 i)).cell? ⟨w.heap.size + 1 + 1, 0, none⟩ = some (.float .f64 r) := by
      rw [World.cell?_setCell_other _ _ _ _ (by simp), World.cell?_setCell_same _ _ _ cg0]
    have y1 : ((w1.setCell ⟨w.heap.size + 1 + 1, 0, none⟩ (.float .f64 r)).setCell ⟨w.heap.size + 1 + 1, 1, none⟩ (.float .f64 i)).cell? ⟨w.heap.size + 1 + 1, 1, none⟩ = some (.float .f64 i) := World.cell?_setCell_same _ _ _ (u := .float .f64 0) (by rw [World.cell?_setCell_other _ _ _ _ (by simp)]; exact cg1)
    have hb0' : Below w.heap.size w ((w1.setCell ⟨w.heap.size + 1 + 1, 0, none⟩ (.float .f64 r)).setCell ⟨w.heap.size + 1 + 1, 1, none⟩ (.float .f64 i)) := below_st (below_st hbl (by simp; omega) _) (by simp; omega) _
    simp only [fill, Act.put, List.zip_cons_cons, List.zip_nil_right, List.zip_nil_left, List.foldl_cons, List.foldl_nil, List.setIfInBounds_toArray, List.set_cons_zero, List.set_cons_succ] at hK ⊢
    refine ⟨?_⟩
    go_simp
    refine hK _ _ ?_
    clear hK
    generalize ((w1.setCell ⟨w.heap.size + 1 + 1, 0, none⟩ (.float .f64 r)).setCell ⟨w.heap.size + 1 + 1, 1, none⟩ (.float .f64 i)) = W1 at y0 y1 hb0' ⊢
    clear cg0 cg1 fg0 fg1 hB1 hbl hb c0 c1 c2 c3 l1 hb0
    go_wp2
    refine ret_val ?_ rfl
    simp [results, Try.results50, go_sem, y0, y1]
    exact ⟨_, _, rfl, hr, hi, hb0'⟩

end Go.Proofs.Ytphfmcdkldcmiaa.Fl
/- For the law FnSizes4: what its walk leans on. -/
namespace Go.Proofs.Ytphfmcdkldcmiaa.Fl
open Go Go.RowKit Go.Proofs.YtphfmcdkldcmiaaW.PrintWords Go.Proofs.YtphfmcdkldcmiaaW.PrintLast Go.Proofs.YtphfmcdkldcmiaaW.PrintMore Go.Proofs.Ytphfmcdkldcmiaa.Rg Go.Proofs.Ytphfmcdkldcmiaa.Rs Go.Proofs.Ytphfmcdkldcmiaa.Mk
open Go.Proofs.Ytphfmcdkldcmiaa.Rt (Mv Near region_spw)
set_option linter.unusedVariables false
set_option linter.unusedSimpArgs false
theorem big_F (A : Option Addr) (n c : Nat) (w : World) (hn : n ≤ 1048576) : Calls Try.prog 46 #[.slice A n c] w fun e w' => e = .returned (.bool false) ∧ w' = w := by
  have hd : decide ((n : Int) > 1048576) = false := decide_eq_false (by omega)
  have h1 : ¬ 1048576 < n := by omega
  go_enter Try.func46, Try.ntmps46
  go_wp2
  go_ret
  exact ⟨by simp [h1], rfl⟩
theorem big_T (A : Option Addr) (n c : Nat) (w : World) (hn : 1048576 < n) : Calls Try.prog 46 #[.slice A n c] w fun e w' => e = .returned (.bool true) ∧ w' = w := by
  have hd : decide ((n : Int) > 1048576) = true := decide_eq_true (by omega)
  go_enter Try.func46, Try.ntmps46
  go_wp2
  go_ret
  exact ⟨by simp [hn], rfl⟩
theorem sameBits_T {a b : Nat} (h : Same .f64 a b) (w : World) : Calls Try.prog 51 #[.float .f64 a, .float .f64 b] w fun e w' => e = .returned (.bool true) ∧ w' = w := by
  cases hn : nanB .f64 a with
  | true =>
    have hb : nanB .f64 b = true := by
      rcases h with rfl | h
      · exact hn
      · exact h.2
    have h1 := order_nan_l a hn
    have h2 := order_nan_l b hb
    have h3 := order_nan_l b hn
    clear h hn hb
    go_enter Try.func51, Try.ntmps51
    go_wp2
    go_ret
    exact ⟨rfl, rfl⟩
  | false =>
    obtain rfl : a = b := by
      rcases h with h | h
      · exact h
      · rw [h.1] at hn; cases hn
    have h1 := order_self hn
    clear h hn
    go_enter Try.func51, Try.ntmps51
    go_wp2
    go_ret
    exact ⟨rfl, rfl⟩
/-- What came back differs nowhere: the test's own Boolean. -/
def offB (r x : Nat) : Bool := if (FloatKind.f32.format.order r x != some .eq) = true then (FloatKind.f32.format.order x x == some .eq) else false
theorem nan_whole (k : FloatKind) (x : Int) (h0 : -16777216 < x) (h1 : x < 16777216) : nanB k (floatOfInt k x) = false := by
  have hw : Wide k.format := by cases k; exact wide32; exact wide64
  obtain ⟨K, e⟩ := read_whole hw x h0 h1
  show (k.format.read (wW k.format x)).isNaN = false
  rw [e]; rfl
theorem same_whole {k : FloatKind} {a : Nat} {x : Int} (h : Same k a (floatOfInt k x)) (h0 : -16777216 < x) (h1 : x < 16777216) : a = floatOfInt k x := by
  rcases h with h | h
  · exact h
  · rw [nan_whole k x h0 h1] at h; cases h.2
theorem same_nan {k : FloatKind} {r x : Nat} (h : Same k r x) (hr : nanB k r = true) : nanB k x = true := by
  rcases h with rfl | h
  · exact hr
  · exact h.2
theorem same_ord {k : FloatKind} {r x : Nat} (h : Same k r x) (hr : nanB k r = false) : k.format.order r x = some .eq := by
  rcases h with rfl | h
  · exact order_self hr
  · rw [h.1] at hr; cases hr
/-- The sums of whole numbers are whole numbers. -/
theorem suS_whole {f : Nat → Nat × Nat} : ∀ {n : Nat}, n ≤ 39 → (∀ j : Nat, j < n → IsWhole (f j)) → ∃ p q : Int, -100 * (n : Int) ≤ p ∧ p ≤ 100 * n ∧ -100 * (n : Int) ≤ q ∧ q ≤ 100 * n ∧ suS f n = ((floatOfInt .f32 p, floatOfInt .f32 q), (floatOfInt .f64 p, floatOfInt .f64 q)) := by
  intro n
  induction n with
  | zero => intro _ _; exact ⟨0, 0, by omega, by omega, by omega, by omega, by unfold suS; decide⟩
  | succ n ih =>
    intro hn hf
    obtain ⟨p, q, hp0, hp1, hq0, hq1, e⟩ := ih (by omega) (fun j hj => hf j (by omega))
    obtain ⟨x, y, hx0, hx1, hy0, hy1, ex⟩ := hf n (by omega)
    refine ⟨p + x, q + y, by omega, by omega, by omega, by omega, ?_⟩
    unfold suS
    rw [e, ex]
    simp only
    rw [gP_whole x (by omega) (by omega), gP_whole y (by omega) (by omega), fP_whole .f32 p x (by omega) (by omega) (by omega) (by omega) (by omega) (by omega), fP_whole .f32 q y (by omega) (by omega) (by omega) (by omega) (by omega) (by omega), fP_whole .f64 p x (by omega) (by omega) (by omega) (by omega) (by omega) (by omega), fP_whole .f64 q y (by omega) (by omega) (by omega) (by omega) (by omega) (by omega)]
theorem suS_34 : suS (fun j => el [(1077936128, 1082130432)] j) 1 = ((floatOfInt .f32 3, floatOfInt .f32 4), (floatOfInt .f64 3, floatOfInt .f64 4)) := by
  have h := fP_whole .f32 0 3 (by omega) (by omega) (by omega) (by omega) (by omega) (by omega)
  have h2 := fP_whole .f32 0 4 (by omega) (by omega) (by omega) (by omega) (by omega) (by omega)
  have h3 := fP_whole .f64 0 3 (by omega) (by omega) (by omega) (by omega) (by omega) (by omega)
  have h4 := fP_whole .f64 0 4 (by omega) (by omega) (by omega) (by omega) (by omega) (by omega)
  have g3 := gP_whole 3 (by omega) (by omega)
  have g4 := gP_whole 4 (by omega) (by omega)
  have e3 : floatOfInt .f32 3 = 1077936128 := by decide
  have e4 : floatOfInt .f32 4 = 1082130432 := by decide
  have z : floatOfInt .f32 0 = 0 := by decide
  have z' : floatOfInt .f64 0 = 0 := by decide
  simp only [Int.zero_add, z, z'] at h h2 h3 h4
  unfold suS suS
  have el0 : el [(1077936128, 1082130432)] 0 = (floatOfInt .f32 3, floatOfInt .f32 4) := by rw [e3, e4]; rfl
  rw [el0]
  simp only
  rw [g3, g4, h, h2, h3, h4]
theorem lit_row {w : World} {g a b : Nat} (h0 : w.cell? ⟨g, 0, none⟩ = some (.float .f32 a)) (h1 : w.cell? ⟨g, 1, none⟩ = some (.float .f32 b)) : (kw .f32).C w (some ⟨g, 0, none⟩) 1 [(a, b)] := by
  refine ⟨rfl, by omega, fun _ => ⟨⟨g, 0, none⟩, rfl, fun j p hj => ?_⟩⟩
  cases j with
  | succ j => simp at hj
  | zero =>
    obtain rfl : (a, b) = p := by simpa using hj
    refine ⟨[.float .f32 a, .float .f32 b], rfl, ⟨[_], [_], rfl, rfl, rfl⟩, fun i u hu => ?_⟩
    match i, hu with
    | 0, hu => obtain rfl : Value.float .f32 a = u := (by simpa using hu); exact h0
    | 1, hu => obtain rfl : Value.float .f32 b = u := (by simpa using hu); exact h1
    | i + 2, hu => simp at hu
theorem lit34 (w : World) : (kw .f32).C (w.alloc (.cells #[.float .f32 1077936128, .float .f32 1082130432] 38)) (some ⟨w.heap.size, 0, none⟩) 1 [(1077936128, 1082130432)] := by
  have hB := Blk.new w 38 #[.float .f32 1077936128, .float .f32 1082130432]
  obtain ⟨q0, q1⟩ := hB.two
  exact lit_row q0 q1
end Go.Proofs.Ytphfmcdkldcmiaa.Fl
/- The law FnSizes4, walked. -/
namespace Go.Proofs.Ytphfmcdkldcmiaa.Fl
open Go Go.RowKit Go.Proofs.YtphfmcdkldcmiaaW.PrintWords Go.Proofs.YtphfmcdkldcmiaaW.PrintLast Go.Proofs.YtphfmcdkldcmiaaW.PrintMore Go.Proofs.Ytphfmcdkldcmiaa.Rg Go.Proofs.Ytphfmcdkldcmiaa.Rs Go.Proofs.Ytphfmcdkldcmiaa.Mk
open Go.Proofs.Ytphfmcdkldcmiaa.Rt (Mv Near region_spw)
set_option linter.unusedVariables false
set_option linter.unusedSimpArgs false
set_option maxHeartbeats 16000000 in
set_option maxRecDepth 100000 in
theorem law_Sizes4 (A0 : Option Addr) (c0 n : Nat) (l0 : List Int) (w : World) (hr : (Kd.int .u8).C w A0 n l0) (hl : n ≤ 1048576) :
    Calls Try.prog 11 #[.slice A0 n c0] w fun e w' => e = .returned (.bool true) ∧ Below w.heap.size w w' := by
  have Hr := Aside0.mk hr
  have Hl := Aside0.mk hl
  have cb := big_F A0 n c0 w hl
  clear hr hl
  have HB := Aside0.mk (Below.refl w.heap.size w)
  go_enter Try.func11, Try.ntmps11
  go_wp2_with fail
  refine cb.mono ?_
  rintro e w' ⟨rfl, hw⟩
  obtain rfl : w = w' := hw.symm
  clear cb
  go_wp2_with fail
  refine (timesSmall_any A0 n c0 l0 w Hr.out Hl.out).mono ?_
  rintro e w1 ⟨⟨a0, a1, b0, b1, rfl⟩, hb⟩
  replace HB := Aside0.mk (HB.out.trans (hb.mono HB.out.size))
  clear hb
  go_upto_region 4 with fail
  have B3 : Blk ((w1.alloc (.cells #[.float .f32 a0, .float .f32 a1] 38)).alloc (.cells #[.float .f32 b0, .float .f32 b1] 38)) (w1.heap.size) 38 #[.float .f32 a0, .float .f32 a1] := (Blk.new w1 _ _).alloc _
  have B4 : Blk ((w1.alloc (.cells #[.float .f32 a0, .float .f32 a1] 38)).alloc (.cells #[.float .f32 b0, .float .f32 b1] 38)) (w1.heap.size + 1) 38 #[.float .f32 b0, .float .f32 b1] := Blk.newAt _ _ (by simp)
  have hb : Below w1.heap.size w1 ((w1.alloc (.cells #[.float .f32 a0, .float .f32 a1] 38)).alloc (.cells #[.float .f32 b0, .float .f32 b1] 38)) := ((Below.refl w1.heap.size w1).alloc (by simp) _).alloc (by simp) _
  replace HB := Aside0.mk (HB.out.trans (hb.mono HB.out.size))
  clear hb
  generalize ((w1.alloc (.cells #[.float .f32 a0, .float .f32 a1] 38)).alloc (.cells #[.float .f32 b0, .float .f32 b1] 38)) = w2 at B3 B4 HB ⊢
  obtain ⟨g4, eg⟩ : ∃ g, g = w1.heap.size + 1 := ⟨_, rfl⟩
  rw [← eg] at B4 ⊢
  clear eg
  generalize w1.heap.size = g3 at *
  obtain ⟨qB30, qB31⟩ := B3.two
  have zB3 := B3.lt
  obtain ⟨qB40, qB41⟩ := B4.two
  have zB4 := B4.lt
  go_wp2_with fail
  refine (great_implW _ _ _).mono ?_
  rintro e w3 ⟨y0, y1, rfl, hy0, hy1, hb⟩
  clear qB30 qB31 zB3
  clear qB40 qB41 zB4
  replace B3 := B3.below hb
  replace B4 := B4.below hb
  replace HB := Aside0.mk (HB.out.trans (hb.mono HB.out.size))
  clear hb
  obtain ⟨qB30, qB31⟩ := B3.two
  have zB3 := B3.lt
  obtain ⟨qB40, qB41⟩ := B4.two
  have zB4 := B4.lt
  go_wp2_with fail
  refine (little_back hy0 hy1 _).mono ?_
  rintro e w4 ⟨x0, x1, rfl, hx0, hx1, hb⟩
  clear qB30 qB31 zB3
  clear qB40 qB41 zB4
  replace B3 := B3.below hb
  replace B4 := B4.below hb
  replace HB := Aside0.mk (HB.out.trans (hb.mono HB.out.size))
  clear hb
  have HX := Aside0.mk (And.intro hx0 hx1)
  clear hx0 hx1 hy0 hy1
  go_upto_region 5 with fail
  have B5 : Blk (w4.alloc (.cells #[.float .f32 x0, .float .f32 x1] 38)) (w4.heap.size) 38 #[.float .f32 x0, .float .f32 x1] := Blk.new w4 _ _
  have hb : Below w4.heap.size w4 (w4.alloc (.cells #[.float .f32 x0, .float .f32 x1] 38)) := (Below.refl w4.heap.size w4).alloc (by simp) _
  replace B3 := B3.below hb
  replace B4 := B4.below hb
  replace HB := Aside0.mk (HB.out.trans (hb.mono HB.out.size))
  clear hb
  generalize (w4.alloc (.cells #[.float .f32 x0, .float .f32 x1] 38)) = w5 at B3 B4 B5 HB ⊢
  generalize w4.heap.size = g5 at *
  obtain ⟨qB30, qB31⟩ := B3.two
  have zB3 := B3.lt
  obtain ⟨qB40, qB41⟩ := B4.two
  have zB4 := B4.lt
  obtain ⟨qB50, qB51⟩ := B5.two
  have zB5 := B5.lt
  go_cut [51] (fun s51 wx => s51 = .bool false ∧ w5 = wx)
  case first =>
    obtain ⟨h0, h1⟩ := HX.out
    rcases h0 with h0 | h0
    · have k1 := order_nan_r (k := .f32) x0 h0
      have k2 := order_nan_l (k := .f32) a0 h0
      clear h0
      rcases h1 with h1 | h1
      · have k3 := order_nan_r (k := .f32) x1 h1
        have k4 := order_nan_l (k := .f32) a1 h1
        clear h1
        go_wp2
        go_meet
        exact ⟨rfl, rfl⟩
      · go_wp2
        go_meet
        exact ⟨rfl, rfl⟩
    · rcases h1 with h1 | h1
      · have k3 := order_nan_r (k := .f32) x1 h1
        have k4 := order_nan_l (k := .f32) a1 h1
        clear h1
        go_wp2
        go_meet
        exact ⟨rfl, rfl⟩
      · go_wp2
        go_meet
        exact ⟨rfl, rfl⟩
  case rest =>
    obtain ⟨rfl, rfl⟩ := hcut
    clear qB30 qB31 zB3
    clear qB40 qB41 zB4
    clear qB50 qB51 zB5
    skip
    clear B5
    go_upto_region 7 with fail
    replace B3 := B3.drew
    replace B4 := B4.drew
    refine region_spw (M := (fun _ => False)) (by kernel_rfl) [some 52, some 53, some 54, some 55, some 56, some 57, some 58, some 59, some 60, some 61, some 6, some 7, none, none] [u52, u53, u54, u55, u56, u57, u58, u59, u60, u61, undef, undef, undef, undef] [26, 38] [Rt.Sp.val (fun v u_ => v = .agg #[.float .f32 a0, .float .f32 a1]), Rt.Sp.val (fun v u_ => ∃ (p1 : Nat) (q1 : Nat), v = .agg #[.float .f64 p1, .float .f64 q1] ∧ Same .f64 p1 (gP a0) ∧ Same .f64 q1 (gP a1)), Rt.Sp.val (fun v u_ => v = .agg #[.float .f32 b0, .float .f32 b1]), Rt.Sp.val (fun v u_ => ∃ (p3 : Nat) (q3 : Nat), v = .agg #[.float .f64 p3, .float .f64 q3] ∧ Same .f64 p3 (gP b0) ∧ Same .f64 q3 (gP b1)), Rt.Sp.val (fun v u_ => ∃ (p4 : Nat) (q4 : Nat), v = .agg #[.float .f64 p4, .float .f64 q4] ∧ Same .f64 p4 (fP .sub .f64 (fP .mul .f64 (gP a0) (gP b0)) (fP .mul .f64 (gP a1) (gP b1))) ∧ Same .f64 q4 (fP .add .f64 (fP .mul .f64 (gP a0) (gP b1)) (fP .mul .f64 (gP a1) (gP b0)))), Rt.Sp.val (fun v u_ => v = .agg #[.float .f32 b0, .float .f32 b1]), Rt.Sp.val (fun v u_ => ∃ (p6 : Nat) (q6 : Nat), v = .agg #[.float .f64 p6, .float .f64 q6] ∧ Same .f64 p6 (gP b0) ∧ Same .f64 q6 (gP b1)), Rt.Sp.val (fun v u_ => v = .agg #[.float .f32 a0, .float .f32 a1]), Rt.Sp.val (fun v u_ => ∃ (p8 : Nat) (q8 : Nat), v = .agg #[.float .f64 p8, .float .f64 q8] ∧ Same .f64 p8 (gP a0) ∧ Same .f64 q8 (gP a1)), Rt.Sp.val (fun v u_ => ∃ (p9 : Nat) (q9 : Nat), v = .agg #[.float .f64 p9, .float .f64 q9] ∧ Same .f64 p9 (fP .sub .f64 (fP .mul .f64 (gP a0) (gP b0)) (fP .mul .f64 (gP a1) (gP b1))) ∧ Same .f64 q9 (fP .add .f64 (fP .mul .f64 (gP a0) (gP b1)) (fP .mul .f64 (gP a1) (gP b0)))), Rt.Sp.new 26 #[.float .f64 0, .float .f64 0] 12 (fun cs => ∃ ua ub : Nat, cs = #[.float .f64 ua, .float .f64 ub] ∧ Same .f64 ua (fP .sub .f64 (fP .mul .f64 (gP a0) (gP b0)) (fP .mul .f64 (gP a1) (gP b1))) ∧ Same .f64 ub (fP .add .f64 (fP .mul .f64 (gP a0) (gP b1)) (fP .mul .f64 (gP a1) (gP b0)))), Rt.Sp.new 26 #[.float .f64 0, .float .f64 0] 13 (fun cs => ∃ va vb : Nat, cs = #[.float .f64 va, .float .f64 vb] ∧ Same .f64 va (fP .sub .f64 (fP .mul .f64 (gP a0) (gP b0)) (fP .mul .f64 (gP a1) (gP b1))) ∧ Same .f64 vb (fP .add .f64 (fP .mul .f64 (gP a0) (gP b1)) (fP .mul .f64 (gP a1) (gP b0)))), Rt.Sp.put 10, Rt.Sp.put 11] (by kernel_rfl) rfl (by kernel_rfl) (fun _ h => h.elim) ⟨(fun _ _ _ h _ => h), (fun _ _ _ h _ => h), (fun _ _ _ h _ => h), (fun _ _ _ h _ => h), (fun _ _ _ h _ => h), (fun _ _ _ h _ => h), (fun _ _ _ h _ => h), (fun _ _ _ h _ => h), (fun _ _ _ h _ => h), (fun _ _ _ h _ => h), trivial⟩ ⟨?_, ?_, ?_, ?_, ?_, ?_, ?_, ?_, ?_, ?_, ?_, ?_, ?_, ?_, trivial⟩ ?_
    · intro vs hl u1 hb hd
      obtain ⟨v0, v1, v2, v3, v4, v5, v6, v7, v8, v9, v10, v11, v12, v13, rfl⟩ := len14 hl
      clear hl
      intro K hK
      obtain ⟨l0, l1⟩ := (hb.blk B3 (fun h => h)).two
      simp only [fs, fo, fz, Act.put, s1, s2, s3] at hK ⊢
      refine ⟨?_⟩
      go_simp
      exact hK _ _ (Mv.refl _ _) rfl
    · intro vs hl u1 hb hd
      obtain ⟨v0, v1, v2, v3, v4, v5, v6, v7, v8, v9, v10, v11, v12, v13, rfl⟩ := len14 hl
      clear hl
      obtain ⟨kh0, _⟩ := hd
      obtain rfl : v0 = .agg #[.float .f32 a0, .float .f32 a1] := kh0
      intro K hK
      simp only [fs, fo, fz, Act.put, s1, s2, s3] at hK ⊢
      refine ⟨?_⟩
      go_simp
      refine (great_implW _ _ _).mono ?_
      rintro e w2 ⟨p1, q1, rfl, hq0, hq1, hb2⟩
      exact hK _ _ (Mv.of hb2) ⟨p1, q1, rfl, hq0, hq1⟩
    · intro vs hl u1 hb hd
      obtain ⟨v0, v1, v2, v3, v4, v5, v6, v7, v8, v9, v10, v11, v12, v13, rfl⟩ := len14 hl
      clear hl
      intro K hK
      obtain ⟨l0, l1⟩ := (hb.blk B4 (fun h => h)).two
      simp only [fs, fo, fz, Act.put, s1, s2, s3] at hK ⊢
      refine ⟨?_⟩
      go_simp
      exact hK _ _ (Mv.refl _ _) rfl
    · intro vs hl u1 hb hd
      obtain ⟨v0, v1, v2, v3, v4, v5, v6, v7, v8, v9, v10, v11, v12, v13, rfl⟩ := len14 hl
      clear hl
      obtain ⟨kh2, kh1, _⟩ := hd
      obtain rfl : v2 = .agg #[.float .f32 b0, .float .f32 b1] := kh2
      obtain ⟨p1, q1, rfl, kf1_0, kf1_1⟩ := kh1
      intro K hK
      simp only [fs, fo, fz, Act.put, s1, s2, s3] at hK ⊢
      refine ⟨?_⟩
      go_simp
      refine (great_implW _ _ _).mono ?_
      rintro e w2 ⟨p3, q3, rfl, hq0, hq1, hb2⟩
      exact hK _ _ (Mv.of hb2) ⟨p3, q3, rfl, hq0, hq1⟩
    · intro vs hl u1 hb hd
      obtain ⟨v0, v1, v2, v3, v4, v5, v6, v7, v8, v9, v10, v11, v12, v13, rfl⟩ := len14 hl
      clear hl
      obtain ⟨kh1, kh3, _, _⟩ := hd
      obtain ⟨p1, q1, rfl, kf1_0, kf1_1⟩ := kh1
      obtain ⟨p3, q3, rfl, kf3_0, kf3_1⟩ := kh3
      intro K hK
      simp only [fs, fo, fz, Act.put, s1, s2, s3] at hK ⊢
      refine ⟨?_⟩
      go_simp
      refine (times_impl _ _ _ _ _).mono ?_
      rintro e w2 ⟨p4, q4, rfl, hq0, hq1, hb2⟩
      exact hK _ _ (Mv.of hb2) ⟨p4, q4, rfl, by rw [fP_same (op := .mul) kf1_0 kf3_0, fP_same (op := .mul) kf1_1 kf3_1] at hq0; exact hq0, by rw [fP_same (op := .mul) kf1_0 kf3_1, fP_same (op := .mul) kf1_1 kf3_0] at hq1; exact hq1⟩
    · intro vs hl u1 hb hd
      obtain ⟨v0, v1, v2, v3, v4, v5, v6, v7, v8, v9, v10, v11, v12, v13, rfl⟩ := len14 hl
      clear hl
      intro K hK
      obtain ⟨l0, l1⟩ := (hb.blk B4 (fun h => h)).two
      simp only [fs, fo, fz, Act.put, s1, s2, s3] at hK ⊢
      refine ⟨?_⟩
      go_simp
      exact hK _ _ (Mv.refl _ _) rfl
    · intro vs hl u1 hb hd
      obtain ⟨v0, v1, v2, v3, v4, v5, v6, v7, v8, v9, v10, v11, v12, v13, rfl⟩ := len14 hl
      clear hl
      obtain ⟨kh5, kh4, _⟩ := hd
      obtain rfl : v5 = .agg #[.float .f32 b0, .float .f32 b1] := kh5
      obtain ⟨p4, q4, rfl, kf4_0, kf4_1⟩ := kh4
      intro K hK
      simp only [fs, fo, fz, Act.put, s1, s2, s3] at hK ⊢
      refine ⟨?_⟩
      go_simp
      refine (great_implW _ _ _).mono ?_
      rintro e w2 ⟨p6, q6, rfl, hq0, hq1, hb2⟩
      exact hK _ _ (Mv.of hb2) ⟨p6, q6, rfl, hq0, hq1⟩
    · intro vs hl u1 hb hd
      obtain ⟨v0, v1, v2, v3, v4, v5, v6, v7, v8, v9, v10, v11, v12, v13, rfl⟩ := len14 hl
      clear hl
      intro K hK
      obtain ⟨l0, l1⟩ := (hb.blk B3 (fun h => h)).two
      simp only [fs, fo, fz, Act.put, s1, s2, s3] at hK ⊢
      refine ⟨?_⟩
      go_simp
      exact hK _ _ (Mv.refl _ _) rfl
    · intro vs hl u1 hb hd
      obtain ⟨v0, v1, v2, v3, v4, v5, v6, v7, v8, v9, v10, v11, v12, v13, rfl⟩ := len14 hl
      clear hl
      obtain ⟨kh7, kh6, _⟩ := hd
      obtain rfl : v7 = .agg #[.float .f32 a0, .float .f32 a1] := kh7
      obtain ⟨p6, q6, rfl, kf6_0, kf6_1⟩ := kh6
      intro K hK
      simp only [fs, fo, fz, Act.put, s1, s2, s3] at hK ⊢
      refine ⟨?_⟩
      go_simp
      refine (great_implW _ _ _).mono ?_
      rintro e w2 ⟨p8, q8, rfl, hq0, hq1, hb2⟩
      exact hK _ _ (Mv.of hb2) ⟨p8, q8, rfl, hq0, hq1⟩
    · intro vs hl u1 hb hd
      obtain ⟨v0, v1, v2, v3, v4, v5, v6, v7, v8, v9, v10, v11, v12, v13, rfl⟩ := len14 hl
      clear hl
      obtain ⟨kh6, kh8, _, _⟩ := hd
      obtain ⟨p6, q6, rfl, kf6_0, kf6_1⟩ := kh6
      obtain ⟨p8, q8, rfl, kf8_0, kf8_1⟩ := kh8
      intro K hK
      simp only [fs, fo, fz, Act.put, s1, s2, s3] at hK ⊢
      refine ⟨?_⟩
      go_simp
      refine (times_impl _ _ _ _ _).mono ?_
      rintro e w2 ⟨p9, q9, rfl, hq0, hq1, hb2⟩
      exact hK _ _ (Mv.of hb2) ⟨p9, q9, rfl, by rw [fP_same (op := .mul) kf6_0 kf8_0, fP_same (op := .mul) kf6_1 kf8_1, mul_comm' .f64 (gP b0), mul_comm' .f64 (gP b1)] at hq0; exact hq0, by rw [fP_same (op := .mul) kf6_0 kf8_1, fP_same (op := .mul) kf6_1 kf8_0, add_comm' .f64, mul_comm' .f64 (gP b0), mul_comm' .f64 (gP b1)] at hq1; exact hq1⟩
    · intro vs hl u1 hb hd
      obtain ⟨v0, v1, v2, v3, v4, v5, v6, v7, v8, v9, v10, v11, v12, v13, rfl⟩ := len14 hl
      clear hl
      intro K hK
      simp only [fs, fo, fz, Act.put, s1, s2, s3] at hK ⊢
      refine ⟨?_⟩
      go_simp
      exact hK
    · intro vs hl u1 hb hd
      obtain ⟨v0, v1, v2, v3, v4, v5, v6, v7, v8, v9, v10, v11, v12, v13, rfl⟩ := len14 hl
      clear hl
      intro K hK
      simp only [fs, fo, fz, Act.put, s1, s2, s3] at hK ⊢
      refine ⟨?_⟩
      go_simp
      exact hK
    · intro vs hl u1 hb hd
      obtain ⟨v0, v1, v2, v3, v4, v5, v6, v7, v8, v9, v10, v11, v12, v13, rfl⟩ := len14 hl
      clear hl
      obtain ⟨kh10, kh4, kh9, kh0, kh1, kh2, kh3, _, _, kh11, _⟩ := hd
      obtain ⟨g7_10, rfl, ka10, kb10, kc10, kd10, ke10⟩ := kh10
      obtain ⟨p4, q4, rfl, kf4_0, kf4_1⟩ := kh4
      obtain ⟨p9, q9, rfl, kf9_0, kf9_1⟩ := kh9
      obtain rfl : v0 = .agg #[.float .f32 a0, .float .f32 a1] := kh0
      obtain ⟨p1, q1, rfl, kf1_0, kf1_1⟩ := kh1
      obtain rfl : v2 = .agg #[.float .f32 b0, .float .f32 b1] := kh2
      obtain ⟨p3, q3, rfl, kf3_0, kf3_1⟩ := kh3
      obtain ⟨g7_11, rfl, ka11, kb11, kc11, kd11, ke11⟩ := kh11
      intro g hg hcs K hK
      cases hg
      obtain ⟨l0, l1⟩ := (Blk.mk hcs).two
      have m0 := (Blk.mk hcs).free 0
      have m1 := (Blk.mk hcs).free 1
      simp only [fs, fo, fz, Act.put, s1, s2, s3] at hK ⊢
      refine ⟨?_⟩
      go_simp
      exact hK _ (filled2 hcs ⟨_, _, rfl, kf4_0, kf4_1⟩)
    · intro vs hl u1 hb hd
      obtain ⟨v0, v1, v2, v3, v4, v5, v6, v7, v8, v9, v10, v11, v12, v13, rfl⟩ := len14 hl
      clear hl
      obtain ⟨kh11, kh9, _, kh0, kh1, kh2, kh3, kh4, kh5, kh6, kh7, kh8, _, kh10, _, _, _⟩ := hd
      obtain ⟨g7_11, rfl, ka11, kb11, kc11, kd11, ke11⟩ := kh11
      obtain ⟨p9, q9, rfl, kf9_0, kf9_1⟩ := kh9
      obtain rfl : v0 = .agg #[.float .f32 a0, .float .f32 a1] := kh0
      obtain ⟨p1, q1, rfl, kf1_0, kf1_1⟩ := kh1
      obtain rfl : v2 = .agg #[.float .f32 b0, .float .f32 b1] := kh2
      obtain ⟨p3, q3, rfl, kf3_0, kf3_1⟩ := kh3
      obtain ⟨p4, q4, rfl, kf4_0, kf4_1⟩ := kh4
      obtain rfl : v5 = .agg #[.float .f32 b0, .float .f32 b1] := kh5
      obtain ⟨p6, q6, rfl, kf6_0, kf6_1⟩ := kh6
      obtain rfl : v7 = .agg #[.float .f32 a0, .float .f32 a1] := kh7
      obtain ⟨p8, q8, rfl, kf8_0, kf8_1⟩ := kh8
      obtain ⟨g7_10, rfl, ka10, kb10, kc10, kd10, ke10⟩ := kh10
      intro g hg hcs K hK
      cases hg
      obtain ⟨l0, l1⟩ := (Blk.mk hcs).two
      have m0 := (Blk.mk hcs).free 0
      have m1 := (Blk.mk hcs).free 1
      simp only [fs, fo, fz, Act.put, s1, s2, s3] at hK ⊢
      refine ⟨?_⟩
      go_simp
      exact hK _ (filled2 hcs ⟨_, _, rfl, kf9_0, kf9_1⟩)
    · intro vs hl w6 hb hd ha
      obtain ⟨v0, v1, v2, v3, v4, v5, v6, v7, v8, v9, v10, v11, v12, v13, rfl⟩ := len14 hl
      clear hl
      obtain ⟨kh0, kh1, kh2, kh3, kh4, kh5, kh6, kh7, kh8, kh9, kh10, kh11, kh12, kh13, _⟩ := hd
      obtain rfl : v0 = .agg #[.float .f32 a0, .float .f32 a1] := kh0
      obtain ⟨p1, q1, rfl, kf1_0, kf1_1⟩ := kh1
      obtain rfl : v2 = .agg #[.float .f32 b0, .float .f32 b1] := kh2
      obtain ⟨p3, q3, rfl, kf3_0, kf3_1⟩ := kh3
      obtain ⟨p4, q4, rfl, kf4_0, kf4_1⟩ := kh4
      obtain rfl : v5 = .agg #[.float .f32 b0, .float .f32 b1] := kh5
      obtain ⟨p6, q6, rfl, kf6_0, kf6_1⟩ := kh6
      obtain rfl : v7 = .agg #[.float .f32 a0, .float .f32 a1] := kh7
      obtain ⟨p8, q8, rfl, kf8_0, kf8_1⟩ := kh8
      obtain ⟨p9, q9, rfl, kf9_0, kf9_1⟩ := kh9
      obtain ⟨g7_10, rfl, ka10, kb10, kc10, kd10, ke10⟩ := kh10
      clear ke10 kd10 kc10
      obtain ⟨g7_11, rfl, ka11, kb11, kc11, kd11, ke11⟩ := kh11
      clear ke11 kd11 kc11
      obtain ⟨g_, hg_, _, _, cs_, hcs_, hq_⟩ := kh12
      cases hg_
      obtain ⟨ua, ub, rfl, hua, hub⟩ := hq_
      have B7_10 := Blk.mk hcs_
      clear hcs_
      obtain ⟨g_, hg_, _, _, cs_, hcs_, hq_⟩ := kh13
      cases hg_
      obtain ⟨va, vb, rfl, hva, hvb⟩ := hq_
      have B7_11 := Blk.mk hcs_
      clear hcs_
      have ne10_11 : g7_10 ≠ g7_11 := by rintro rfl; exact ha 10 11 (by decide) rfl rfl rfl
      clear ha
      simp only [fs, fo, fz, Act.put, s1, s2, s3]
      replace B3 := hb.blk B3 (fun h => h)
      replace B4 := hb.blk B4 (fun h => h)
      replace HB := Aside0.mk (HB.out.trans (Below.trans (show Below w.heap.size w5 w5.drew from pw_below_drewN (Below.refl _ _) 1) (hb.belowB HB.out.size (fun _ h => h.elim))))
      clear hb
      have HU := Aside0.mk (And.intro (hua.trans hva.symm) (hub.trans hvb.symm))
      clear hua hva hub hvb
      obtain ⟨qB30, qB31⟩ := B3.two
      have zB3 := B3.lt
      obtain ⟨qB40, qB41⟩ := B4.two
      have zB4 := B4.lt
      obtain ⟨qB7_100, qB7_101⟩ := B7_10.two
      have zB7_10 := B7_10.lt
      obtain ⟨qB7_110, qB7_111⟩ := B7_11.two
      have zB7_11 := B7_11.lt
      go_wp2_with fail
      refine (sameBits_T HU.out.1 _).mono ?_
      rintro e wx ⟨rfl, hwx⟩
      obtain rfl : w6 = wx := hwx.symm
      go_wp2_with fail
      refine (sameBits_T HU.out.2 _).mono ?_
      rintro e wx ⟨rfl, hwx⟩
      obtain rfl : w6 = wx := hwx.symm
      go_upto_region 10 with fail
      clear qB30 qB31 zB3
      clear qB40 qB41 zB4
      clear qB7_100 qB7_101 zB7_10
      clear qB7_110 qB7_111 zB7_11
      clear B7_10 B7_11
      replace B3 := B3.drew
      replace B4 := B4.drew
      refine region_spw (M := (fun _ => False)) (by kernel_rfl) [some 76, some 77, some 78, some 79, some 80, some 81, some 8, some 9, none, none] [u76, u77, u78, u79, u80, u81, undef, undef, undef, undef] [26, 38] [Rt.Sp.val (fun v u_ => v = .agg #[.float .f32 a0, .float .f32 a1]), Rt.Sp.val (fun v u_ => v = .agg #[.float .f32 b0, .float .f32 b1]), Rt.Sp.val (fun v u_ => ∃ (p2 : Nat) (q2 : Nat), v = .agg #[.float .f32 p2, .float .f32 q2] ∧ Same .f32 p2 (fP .add .f32 a0 b0) ∧ Same .f32 q2 (fP .add .f32 a1 b1)), Rt.Sp.val (fun v u_ => v = .agg #[.float .f32 b0, .float .f32 b1]), Rt.Sp.val (fun v u_ => v = .agg #[.float .f32 a0, .float .f32 a1]), Rt.Sp.val (fun v u_ => ∃ (p5 : Nat) (q5 : Nat), v = .agg #[.float .f32 p5, .float .f32 q5] ∧ Same .f32 p5 (fP .add .f32 a0 b0) ∧ Same .f32 q5 (fP .add .f32 a1 b1)), Rt.Sp.new 38 #[.float .f32 0, .float .f32 0] 8 (fun cs => ∃ sa sb : Nat, cs = #[.float .f32 sa, .float .f32 sb] ∧ Same .f32 sa (fP .add .f32 a0 b0) ∧ Same .f32 sb (fP .add .f32 a1 b1)), Rt.Sp.new 38 #[.float .f32 0, .float .f32 0] 9 (fun cs => ∃ ta tb : Nat, cs = #[.float .f32 ta, .float .f32 tb] ∧ Same .f32 ta (fP .add .f32 a0 b0) ∧ Same .f32 tb (fP .add .f32 a1 b1)), Rt.Sp.put 6, Rt.Sp.put 7] (by kernel_rfl) rfl (by kernel_rfl) (fun _ h => h.elim) ⟨(fun _ _ _ h _ => h), (fun _ _ _ h _ => h), (fun _ _ _ h _ => h), (fun _ _ _ h _ => h), (fun _ _ _ h _ => h), (fun _ _ _ h _ => h), trivial⟩ ⟨?_, ?_, ?_, ?_, ?_, ?_, ?_, ?_, ?_, ?_, trivial⟩ ?_
      · intro vs hl u1 hb hd
        obtain ⟨v0, v1, v2, v3, v4, v5, v6, v7, v8, v9, rfl⟩ := len10 hl
        clear hl
        intro K hK
        obtain ⟨l0, l1⟩ := (hb.blk B3 (fun h => h)).two
        simp only [fs, fo, fz, Act.put, s1, s2, s3] at hK ⊢
        refine ⟨?_⟩
        go_simp
        exact hK _ _ (Mv.refl _ _) rfl
      · intro vs hl u1 hb hd
        obtain ⟨v0, v1, v2, v3, v4, v5, v6, v7, v8, v9, rfl⟩ := len10 hl
        clear hl
        intro K hK
        obtain ⟨l0, l1⟩ := (hb.blk B4 (fun h => h)).two
        simp only [fs, fo, fz, Act.put, s1, s2, s3] at hK ⊢
        refine ⟨?_⟩
        go_simp
        exact hK _ _ (Mv.refl _ _) rfl
      · intro vs hl u1 hb hd
        obtain ⟨v0, v1, v2, v3, v4, v5, v6, v7, v8, v9, rfl⟩ := len10 hl
        clear hl
        obtain ⟨kh0, kh1, _⟩ := hd
        obtain rfl : v0 = .agg #[.float .f32 a0, .float .f32 a1] := kh0
        obtain rfl : v1 = .agg #[.float .f32 b0, .float .f32 b1] := kh1
        intro K hK
        simp only [fs, fo, fz, Act.put, s1, s2, s3] at hK ⊢
        refine ⟨?_⟩
        go_simp
        refine (AddSmall_impl _ _ _ _ _).mono ?_
        rintro e w2 ⟨p2, q2, rfl, hq0, hq1, hb2⟩
        exact hK _ _ (Mv.of hb2) ⟨p2, q2, rfl, hq0, hq1⟩
      · intro vs hl u1 hb hd
        obtain ⟨v0, v1, v2, v3, v4, v5, v6, v7, v8, v9, rfl⟩ := len10 hl
        clear hl
        intro K hK
        obtain ⟨l0, l1⟩ := (hb.blk B4 (fun h => h)).two
        simp only [fs, fo, fz, Act.put, s1, s2, s3] at hK ⊢
        refine ⟨?_⟩
        go_simp
        exact hK _ _ (Mv.refl _ _) rfl
      · intro vs hl u1 hb hd
        obtain ⟨v0, v1, v2, v3, v4, v5, v6, v7, v8, v9, rfl⟩ := len10 hl
        clear hl
        intro K hK
        obtain ⟨l0, l1⟩ := (hb.blk B3 (fun h => h)).two
        simp only [fs, fo, fz, Act.put, s1, s2, s3] at hK ⊢
        refine ⟨?_⟩
        go_simp
        exact hK _ _ (Mv.refl _ _) rfl
      · intro vs hl u1 hb hd
        obtain ⟨v0, v1, v2, v3, v4, v5, v6, v7, v8, v9, rfl⟩ := len10 hl
        clear hl
        obtain ⟨kh3, kh4, kh2, _⟩ := hd
        obtain rfl : v3 = .agg #[.float .f32 b0, .float .f32 b1] := kh3
        obtain rfl : v4 = .agg #[.float .f32 a0, .float .f32 a1] := kh4
        obtain ⟨p2, q2, rfl, kf2_0, kf2_1⟩ := kh2
        intro K hK
        simp only [fs, fo, fz, Act.put, s1, s2, s3] at hK ⊢
        refine ⟨?_⟩
        go_simp
        refine (AddSmall_impl _ _ _ _ _).mono ?_
        rintro e w2 ⟨p5, q5, rfl, hq0, hq1, hb2⟩
        exact hK _ _ (Mv.of hb2) ⟨p5, q5, rfl, by rw [add_comm' .f32 b0] at hq0; exact hq0, by rw [add_comm' .f32 b1] at hq1; exact hq1⟩
      · intro vs hl u1 hb hd
        obtain ⟨v0, v1, v2, v3, v4, v5, v6, v7, v8, v9, rfl⟩ := len10 hl
        clear hl
        intro K hK
        simp only [fs, fo, fz, Act.put, s1, s2, s3] at hK ⊢
        refine ⟨?_⟩
        go_simp
        exact hK
      · intro vs hl u1 hb hd
        obtain ⟨v0, v1, v2, v3, v4, v5, v6, v7, v8, v9, rfl⟩ := len10 hl
        clear hl
        intro K hK
        simp only [fs, fo, fz, Act.put, s1, s2, s3] at hK ⊢
        refine ⟨?_⟩
        go_simp
        exact hK
      · intro vs hl u1 hb hd
        obtain ⟨v0, v1, v2, v3, v4, v5, v6, v7, v8, v9, rfl⟩ := len10 hl
        clear hl
        obtain ⟨kh6, kh2, kh5, kh0, kh1, _, _, kh7, _⟩ := hd
        obtain ⟨g10_6, rfl, ka6, kb6, kc6, kd6, ke6⟩ := kh6
        obtain ⟨p2, q2, rfl, kf2_0, kf2_1⟩ := kh2
        obtain ⟨p5, q5, rfl, kf5_0, kf5_1⟩ := kh5
        obtain rfl : v0 = .agg #[.float .f32 a0, .float .f32 a1] := kh0
        obtain rfl : v1 = .agg #[.float .f32 b0, .float .f32 b1] := kh1
        obtain ⟨g10_7, rfl, ka7, kb7, kc7, kd7, ke7⟩ := kh7
        intro g hg hcs K hK
        cases hg
        obtain ⟨l0, l1⟩ := (Blk.mk hcs).two
        have m0 := (Blk.mk hcs).free 0
        have m1 := (Blk.mk hcs).free 1
        simp only [fs, fo, fz, Act.put, s1, s2, s3] at hK ⊢
        refine ⟨?_⟩
        go_simp
        exact hK _ (filled2 hcs ⟨_, _, rfl, kf2_0, kf2_1⟩)
      · intro vs hl u1 hb hd
        obtain ⟨v0, v1, v2, v3, v4, v5, v6, v7, v8, v9, rfl⟩ := len10 hl
        clear hl
        obtain ⟨kh7, kh5, _, kh0, kh1, kh2, kh3, kh4, _, kh6, _, _, _⟩ := hd
        obtain ⟨g10_7, rfl, ka7, kb7, kc7, kd7, ke7⟩ := kh7
        obtain ⟨p5, q5, rfl, kf5_0, kf5_1⟩ := kh5
        obtain rfl : v0 = .agg #[.float .f32 a0, .float .f32 a1] := kh0
        obtain rfl : v1 = .agg #[.float .f32 b0, .float .f32 b1] := kh1
        obtain ⟨p2, q2, rfl, kf2_0, kf2_1⟩ := kh2
        obtain rfl : v3 = .agg #[.float .f32 b0, .float .f32 b1] := kh3
        obtain rfl : v4 = .agg #[.float .f32 a0, .float .f32 a1] := kh4
        obtain ⟨g10_6, rfl, ka6, kb6, kc6, kd6, ke6⟩ := kh6
        intro g hg hcs K hK
        cases hg
        obtain ⟨l0, l1⟩ := (Blk.mk hcs).two
        have m0 := (Blk.mk hcs).free 0
        have m1 := (Blk.mk hcs).free 1
        simp only [fs, fo, fz, Act.put, s1, s2, s3] at hK ⊢
        refine ⟨?_⟩
        go_simp
        exact hK _ (filled2 hcs ⟨_, _, rfl, kf5_0, kf5_1⟩)
      · intro vs hl w7 hb hd ha
        obtain ⟨v0, v1, v2, v3, v4, v5, v6, v7, v8, v9, rfl⟩ := len10 hl
        clear hl
        obtain ⟨kh0, kh1, kh2, kh3, kh4, kh5, kh6, kh7, kh8, kh9, _⟩ := hd
        obtain rfl : v0 = .agg #[.float .f32 a0, .float .f32 a1] := kh0
        obtain rfl : v1 = .agg #[.float .f32 b0, .float .f32 b1] := kh1
        obtain ⟨p2, q2, rfl, kf2_0, kf2_1⟩ := kh2
        obtain rfl : v3 = .agg #[.float .f32 b0, .float .f32 b1] := kh3
        obtain rfl : v4 = .agg #[.float .f32 a0, .float .f32 a1] := kh4
        obtain ⟨p5, q5, rfl, kf5_0, kf5_1⟩ := kh5
        obtain ⟨g10_6, rfl, ka6, kb6, kc6, kd6, ke6⟩ := kh6
        clear ke6 kd6 kc6
        obtain ⟨g10_7, rfl, ka7, kb7, kc7, kd7, ke7⟩ := kh7
        clear ke7 kd7 kc7
        obtain ⟨g_, hg_, _, _, cs_, hcs_, hq_⟩ := kh8
        cases hg_
        obtain ⟨sa, sb, rfl, hsa, hsb⟩ := hq_
        have B10_6 := Blk.mk hcs_
        clear hcs_
        obtain ⟨g_, hg_, _, _, cs_, hcs_, hq_⟩ := kh9
        cases hg_
        obtain ⟨ta, tb, rfl, hta, htb⟩ := hq_
        have B10_7 := Blk.mk hcs_
        clear hcs_
        have ne6_7 : g10_6 ≠ g10_7 := by rintro rfl; exact ha 6 7 (by decide) rfl rfl rfl
        clear ha
        simp only [fs, fo, fz, Act.put, s1, s2, s3]
        replace B3 := hb.blk B3 (fun h => h)
        replace B4 := hb.blk B4 (fun h => h)
        replace HB := Aside0.mk (HB.out.trans (Below.trans (show Below w.heap.size w6 w6.drew from pw_below_drewN (Below.refl _ _) 1) (hb.belowB HB.out.size (fun _ h => h.elim))))
        clear hb
        have HT := Aside0.mk (And.intro (hsa.trans hta.symm) (hsb.trans htb.symm))
        clear hsa hta hsb htb
        go_upto_region 11 with fail
        obtain ⟨qB30, qB31⟩ := B3.two
        have zB3 := B3.lt
        obtain ⟨qB40, qB41⟩ := B4.two
        have zB4 := B4.lt
        obtain ⟨qB10_60, qB10_61⟩ := B10_6.two
        have zB10_6 := B10_6.lt
        obtain ⟨qB10_70, qB10_71⟩ := B10_7.two
        have zB10_7 := B10_7.lt
        go_cut [107] (fun s107 wx => s107 = .bool false ∧ w7 = wx)
        case first =>
          cases hnsa : nanB .f32 sa with
          | true =>
            have hxsa : nanB .f32 ta = true := same_nan HT.out.1 hnsa
            have k1sa := order_nan_l (k := .f32) ta hnsa
            have k2sa := order_nan_l (k := .f32) sa hnsa
            clear hxsa hnsa
            cases hnsb : nanB .f32 sb with
            | true =>
              have hxsb : nanB .f32 tb = true := same_nan HT.out.2 hnsb
              have k1sb := order_nan_l (k := .f32) tb hnsb
              have k2sb := order_nan_l (k := .f32) sb hnsb
              clear hxsb hnsb
              go_wp2
              go_meet
              exact ⟨rfl, rfl⟩
            | false =>
              have k1sb : FloatKind.f32.format.order sb tb = some .eq := same_ord HT.out.2 hnsb
              clear hnsb
              go_wp2
              go_meet
              exact ⟨rfl, rfl⟩
          | false =>
            have k1sa : FloatKind.f32.format.order sa ta = some .eq := same_ord HT.out.1 hnsa
            clear hnsa
            cases hnsb : nanB .f32 sb with
            | true =>
              have hxsb : nanB .f32 tb = true := same_nan HT.out.2 hnsb
              have k1sb := order_nan_l (k := .f32) tb hnsb
              have k2sb := order_nan_l (k := .f32) sb hnsb
              clear hxsb hnsb
              go_wp2
              go_meet
              exact ⟨rfl, rfl⟩
            | false =>
              have k1sb : FloatKind.f32.format.order sb tb = some .eq := same_ord HT.out.2 hnsb
              clear hnsb
              go_wp2
              go_meet
              exact ⟨rfl, rfl⟩
        case rest =>
          obtain ⟨rfl, rfl⟩ := hcut
          clear qB30 qB31 zB3
          clear qB40 qB41 zB4
          clear qB10_60 qB10_61 zB10_6
          clear qB10_70 qB10_71 zB10_7
          clear B3 B4 B10_6 B10_7 HX HU HT
          go_wp2_with fail
          refine (whole_any A0 n c0 l0 w7 (Kd.C_below Hr.out HB.out) Hl.out).mono ?_
          rintro e w8 ⟨v_, Bw, rfl, ho, hlen, hwh, hb⟩
          replace HB := Aside0.mk (HB.out.trans (hb.mono HB.out.size))
          clear hb
          obtain ⟨Aw, cw, rfl⟩ := Kd.R_slice ho
          have hCw := (Kd.R_reads' ho).2.2
          clear ho
          have HLn := Aside0.mk hlen
          obtain ⟨pp, qq, hp0, hp1, hq0, hq1, hS⟩ := suS_whole (f := fun j => el Bw j) hlen hwh
          have ct := summed_impl_all Aw cw Bw (fun j => el Bw j) Bw.length w8 hCw (by omega) (fun j _ => SameW.refl _ _)
          unfold SuIs at ct
          rw [if_pos (by omega : Bw.length ≤ 60), hS] at ct
          clear hCw hwh hS
          have hpr : -16777216 < pp ∧ pp < 16777216 ∧ -16777216 < qq ∧ qq < 16777216 := by omega
          have HPR := Aside0.mk hpr
          clear hp0 hp1 hq0 hq1 hlen hpr
          go_wp2_with fail
          refine ct.mono ?_
          rintro e w9 ⟨⟨s0, s1, t0, t1, rfl, hs0, hs1, ht0, ht1⟩, hb⟩
          clear ct
          obtain rfl : s0 = floatOfInt .f32 pp := same_whole hs0 HPR.out.1 HPR.out.2.1
          obtain rfl : s1 = floatOfInt .f32 qq := same_whole hs1 HPR.out.2.2.1 HPR.out.2.2.2
          obtain rfl : t0 = floatOfInt .f64 pp := same_whole ht0 HPR.out.1 HPR.out.2.1
          obtain rfl : t1 = floatOfInt .f64 qq := same_whole ht1 HPR.out.2.2.1 HPR.out.2.2.2
          clear hs0 hs1 ht0 ht1
          replace HB := Aside0.mk (HB.out.trans (hb.mono HB.out.size))
          clear hb
          go_upto_region 15 with fail
          have B11 : Blk ((w9.alloc (.cells #[.float .f32 (floatOfInt .f32 pp), .float .f32 (floatOfInt .f32 qq)] 38)).alloc (.cells #[.float .f64 (floatOfInt .f64 pp), .float .f64 (floatOfInt .f64 qq)] 26)) (w9.heap.size) 38 #[.float .f32 (floatOfInt .f32 pp), .float .f32 (floatOfInt .f32 qq)] := (Blk.new w9 _ _).alloc _
          have B12 : Blk ((w9.alloc (.cells #[.float .f32 (floatOfInt .f32 pp), .float .f32 (floatOfInt .f32 qq)] 38)).alloc (.cells #[.float .f64 (floatOfInt .f64 pp), .float .f64 (floatOfInt .f64 qq)] 26)) (w9.heap.size + 1) 26 #[.float .f64 (floatOfInt .f64 pp), .float .f64 (floatOfInt .f64 qq)] := Blk.newAt _ _ (by simp)
          have hb : Below w9.heap.size w9 ((w9.alloc (.cells #[.float .f32 (floatOfInt .f32 pp), .float .f32 (floatOfInt .f32 qq)] 38)).alloc (.cells #[.float .f64 (floatOfInt .f64 pp), .float .f64 (floatOfInt .f64 qq)] 26)) := ((Below.refl w9.heap.size w9).alloc (by simp) _).alloc (by simp) _
          replace HB := Aside0.mk (HB.out.trans (hb.mono HB.out.size))
          clear hb
          generalize ((w9.alloc (.cells #[.float .f32 (floatOfInt .f32 pp), .float .f32 (floatOfInt .f32 qq)] 38)).alloc (.cells #[.float .f64 (floatOfInt .f64 pp), .float .f64 (floatOfInt .f64 qq)] 26)) = w10 at B11 B12 HB ⊢
          obtain ⟨g12, eg⟩ : ∃ g, g = w9.heap.size + 1 := ⟨_, rfl⟩
          rw [← eg] at B12 ⊢
          clear eg
          generalize w9.heap.size = g11 at *
          obtain ⟨qB110, qB111⟩ := B11.two
          have zB11 := B11.lt
          obtain ⟨qB120, qB121⟩ := B12.two
          have zB12 := B12.lt
          go_wp2_with fail
          refine (great_implW _ _ _).mono ?_
          rintro e w11 ⟨r0, r1, rfl, hr0, hr1, hb⟩
          clear qB110 qB111 zB11
          clear qB120 qB121 zB12
          replace B11 := B11.below hb
          replace B12 := B12.below hb
          replace HB := Aside0.mk (HB.out.trans (hb.mono HB.out.size))
          clear hb
          rw [gP_whole pp HPR.out.1 HPR.out.2.1] at hr0
          rw [gP_whole qq HPR.out.2.2.1 HPR.out.2.2.2] at hr1
          obtain rfl : r0 = floatOfInt .f64 pp := same_whole hr0 HPR.out.1 HPR.out.2.1
          obtain rfl : r1 = floatOfInt .f64 qq := same_whole hr1 HPR.out.2.2.1 HPR.out.2.2.2
          clear hr0 hr1
          go_upto_region 16 with fail
          clear B11
          have B13 : Blk (w11.alloc (.cells #[.float .f64 (floatOfInt .f64 pp), .float .f64 (floatOfInt .f64 qq)] 26)) (w11.heap.size) 26 #[.float .f64 (floatOfInt .f64 pp), .float .f64 (floatOfInt .f64 qq)] := Blk.new w11 _ _
          have hb : Below w11.heap.size w11 (w11.alloc (.cells #[.float .f64 (floatOfInt .f64 pp), .float .f64 (floatOfInt .f64 qq)] 26)) := (Below.refl w11.heap.size w11).alloc (by simp) _
          replace B12 := B12.below hb
          replace HB := Aside0.mk (HB.out.trans (hb.mono HB.out.size))
          clear hb
          generalize (w11.alloc (.cells #[.float .f64 (floatOfInt .f64 pp), .float .f64 (floatOfInt .f64 qq)] 26)) = w12 at B12 B13 HB ⊢
          generalize w11.heap.size = g13 at *
          have ct := fun W h => summed_impl_all (some ⟨w12.heap.size, 0, none⟩) 1 [(1077936128, 1082130432)] (fun j => el [(1077936128, 1082130432)] j) 1 W h (by omega) (fun j _ => SameW.refl _ _)
          unfold SuIs at ct
          rw [if_pos (by omega : (1 : Nat) ≤ 60), suS_34] at ct
          have hC34 := lit34 w12
          replace ct := ct _ hC34
          clear hC34
          go_wp2_with fail
          refine ct.mono ?_
          rintro e w13 ⟨⟨s0, s1, t0, t1, rfl, hs0, hs1, ht0, ht1⟩, hb⟩
          clear ct
          obtain rfl : s0 = 1077936128 := same_whole (x := 3) hs0 (by omega) (by omega)
          obtain rfl : s1 = 1082130432 := same_whole (x := 4) hs1 (by omega) (by omega)
          clear hs0 hs1 ht0 ht1
          replace hb : Below w12.heap.size w12 w13 := (((Below.refl w12.heap.size w12).alloc (Nat.le_refl _) _).trans (hb.mono (by simp)))
          replace B12 := B12.below hb
          replace B13 := B13.below hb
          replace HB := Aside0.mk (HB.out.trans (hb.mono HB.out.size))
          clear hb
          go_upto_region 17 with fail
          have B14 : Blk ((w13.alloc (.cells #[.float .f32 1077936128, .float .f32 1082130432] 38)).alloc (.cells #[.float .f64 t0, .float .f64 t1] 26)) (w13.heap.size) 38 #[.float .f32 1077936128, .float .f32 1082130432] := (Blk.new w13 _ _).alloc _
          have B15 : Blk ((w13.alloc (.cells #[.float .f32 1077936128, .float .f32 1082130432] 38)).alloc (.cells #[.float .f64 t0, .float .f64 t1] 26)) (w13.heap.size + 1) 26 #[.float .f64 t0, .float .f64 t1] := Blk.newAt _ _ (by simp)
          have hb : Below w13.heap.size w13 ((w13.alloc (.cells #[.float .f32 1077936128, .float .f32 1082130432] 38)).alloc (.cells #[.float .f64 t0, .float .f64 t1] 26)) := ((Below.refl w13.heap.size w13).alloc (by simp) _).alloc (by simp) _
          replace B12 := B12.below hb
          replace B13 := B13.below hb
          replace HB := Aside0.mk (HB.out.trans (hb.mono HB.out.size))
          clear hb
          generalize ((w13.alloc (.cells #[.float .f32 1077936128, .float .f32 1082130432] 38)).alloc (.cells #[.float .f64 t0, .float .f64 t1] 26)) = w14 at B12 B13 B14 B15 HB ⊢
          obtain ⟨g15, eg⟩ : ∃ g, g = w13.heap.size + 1 := ⟨_, rfl⟩
          rw [← eg] at B15 ⊢
          clear eg
          generalize w13.heap.size = g14 at *
          have k1 := order_self (nan_whole .f64 pp HPR.out.1 HPR.out.2.1)
          have k2 := order_self (nan_whole .f64 qq HPR.out.2.2.1 HPR.out.2.2.2)
          have k3 : FloatKind.f32.format.order 1077936128 1077936128 = some .eq := by decide
          have k4 : FloatKind.f32.format.order 1082130432 1082130432 = some .eq := by decide
          have HBe := HB
          obtain ⟨qB120, qB121⟩ := B12.two
          have zB12 := B12.lt
          obtain ⟨qB130, qB131⟩ := B13.two
          have zB13 := B13.lt
          obtain ⟨qB140, qB141⟩ := B14.two
          have zB14 := B14.lt
          obtain ⟨qB150, qB151⟩ := B15.two
          have zB15 := B15.lt
          clear B12 B13 B14 B15
          go_wp2
          go_ret
          exact ⟨rfl, HBe.out⟩
theorem row_Sizes4 (A0 : Option Addr) (c0 : Nat) (l0 : List Int) (w : World) (hc : l0.length ≤ c0) (hr : (Kd.int .u8).C w A0 l0.length l0) {P Q : Prop} (_ : P) (_ : Q) :
    Calls Try.prog 11 #[.slice A0 l0.length c0] w fun e w' => e = .returned (.bool true) ∧ Below w.heap.size w w' := by
  by_cases hl : l0.length ≤ 1048576
  · exact law_Sizes4 A0 c0 l0.length l0 w hr hl
  · clear hr hc
    generalize l0.length = n at *
    have cb := big_T A0 n c0 w (by omega)
    clear hl
    go_enter Try.func11, Try.ntmps11
    go_wp2_with fail
    refine cb.mono ?_
    rintro e w' ⟨rfl, hw⟩
    obtain rfl : w = w' := hw.symm
    go_wp2
    go_ret
    exact ⟨rfl, Below.refl _ _⟩
end Go.Proofs.Ytphfmcdkldcmiaa.Fl
