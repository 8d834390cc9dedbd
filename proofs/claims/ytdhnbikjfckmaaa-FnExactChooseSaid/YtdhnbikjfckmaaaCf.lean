/- slices.IndexFunc and slices.ContainsFunc at whole numbers, and the function all: whatever function value is handed on, so long as it answers by a rule and leaves what lay there. -/
import Derived.Test.YtdhnbikjfckmaaaProg
import Derived.Lib.SlBy
import Derived.Lib.Walk
import Derived.Shelf.Abstract
import Derived.WalkKit
import Derived.KernelRfl
import Derived.Deep.LoopGhost
import Derived.Deep.Draws
import Derived.Test.YtdhnbikjfckmaaaWWords
namespace Go.Proofs.Ytdhnbikjfckmaaa.Cf
open Go Go.RowKit Go.Lib Go.Proofs.YtdhnbikjfckmaaaW.PrintWords
set_option linter.unusedVariables false
set_option linter.unusedSimpArgs false

/-- A rule p that function g, bound to lb, answers by, in every later world. -/
def Answers {α : Type} (g : Nat) (lb : Array Value) (enc : α → Value) (p : α → Bool) (w : World) : Prop :=
  ∀ (W : World) (x : α), Below w.heap.size w W → Calls Try.prog g (#[enc x] ++ lb) W fun e w' => e = .returned (.bool (p x)) ∧ Below W.heap.size W w'

theorem any_not (l : List Int) (q : Int → Bool) : (!(l.any fun x => !(q x))) = l.all q := by
  induction l with
  | nil => rfl
  | cons a l ih =>
    simp only [List.any_cons, List.all_cons, Bool.not_or, Bool.not_not]
    rw [ih]
set_option maxHeartbeats 2000000 in
theorem indexFunc (p : Int → Bool) (g : Nat) (lb : Array Value) (eg : ∀ args w, (callFunc g args).run Try.prog w = .ok (.enter g args) w) (A : Option Addr) (c : Nat) (zs : List Int) (w : World)
    (hp : Answers g lb (Value.int .i64) p w) (hr : Kd.C (Kd.int .i64) w A zs.length zs) :
    Calls Try.prog 60 #[.slice A zs.length c, .func (.func g) #[] lb] w fun e w' => e = .returned (.int .i64 (Lib.idxBy (fun _ y => p y) zs (0 : Int))) ∧ Below w.heap.size w w' := by
  have hbig : zs.length ≤ 9223372036854775807 := hr.2.1
  have hrow : ∀ (W : World), Below w.heap.size w W → ∀ j : Nat, j < zs.length → ∃ ad, A = some ad ∧ W.cell? (ad.add j) = some (.int .i64 zs[j]!) := fun W hW j hj => by
    obtain ⟨ad, cs, e, hl, hk, hcell⟩ := Kd.C_get hr (0 : Int) (j : Int) (by omega) (by omega)
    obtain rfl : cs = [Value.int .i64 (zs.getD (j : Int).toNat 0)] := hk
    have h0 := hcell 0 _ rfl
    refine ⟨ad, e, ?_⟩
    have e2 : zs.getD (j : Int).toNat 0 = zs[j]! := by simp [List.getD_eq_getElem?_getD, hj]
    rw [e2] at h0
    have e3 : (j : Int).toNat * Kd.sz (Kd.int .i64) + 0 = j := by simp [Kd.int, Kd.scalar]
    rw [e3] at h0
    exact pw_cell_below hW h0
  have HROW := Aside0.mk hrow
  have HP := Aside0.mk hp
  clear hr hrow hp
  go_enter Try.func60, Try.ntmps60
  go_wp2
  go_loopg [5, 8] zs.length (fun gg _ s8 wr => ∃ kk : Nat, kk ≤ zs.length ∧ zs.length - kk ≤ gg ∧ s8 = .int .i64 kk ∧ Aside0 (Below w.heap.size w wr) ∧ Aside0 (∀ j, j < kk → p zs[j]! = false))
  case atStart => exact ⟨0, Nat.zero_le _, by omega, rfl, ⟨Below.refl _ w⟩, ⟨fun j hj => absurd hj (Nat.not_lt_zero _)⟩⟩
  case round =>
    obtain ⟨kk, hkk, hg, rfl, BW, AA⟩ := hrel
    by_cases hlt : kk < zs.length
    · have hltz : (kk : Int) < (zs.length : Int) := by omega
      obtain ⟨ad, rfl, l2⟩ := HROW.out wr BW.out kk (by omega)
      have hcall := HP.out wr zs[kk]! BW.out
      clear HROW HP
      generalize hy : zs[kk]! = y at l2 hcall
      have B := Aside0.mk hy
      clear hy
      cases hq : p y with
      | true =>
        rw [hq] at hcall
        go_wp2_with fail
        refine hcall.mono ?_
        rintro e w' ⟨rfl, hb'⟩
        go_wp2
        go_ret
        refine ⟨?_, BW.out.trans (hb'.mono BW.out.size)⟩
        have := Lib.idxBy_hit (fun _ y => p y) zs zs.length kk (0 : Int) hlt (Nat.le_refl _) (by show p zs[kk]! = true; rw [B.out]; exact hq) AA.out
        rw [List.take_length] at this
        rw [this]
        rfl
      | false =>
        rw [hq] at hcall
        go_wp2_with fail
        refine hcall.mono ?_
        rintro e w' ⟨rfl, hb'⟩
        go_wp2
        go_roundg (zs.length - (kk + 1))
        case measure => omega
        case rel =>
          refine ⟨kk + 1, by omega, by omega, by go_num, ⟨BW.out.trans (hb'.mono BW.out.size)⟩, ⟨fun j hj => ?_⟩⟩
          by_cases e : j = kk
          · subst e
            rw [B.out]; exact hq
          · exact AA.out j (by omega)
    · have hltz : ¬ (kk : Int) < (zs.length : Int) := by omega
      have hk : kk = zs.length := by omega
      clear HROW HP
      have AA2 := AA.out
      have hkz : (kk : Int) = (zs.length : Int) := by omega
      subst hk
      go_wp2
      go_ret
      refine ⟨?_, BW.out⟩
      have := Lib.idxBy_miss (fun _ y => p y) zs zs.length (0 : Int) AA2
      rw [List.take_length] at this
      rw [this]
      rfl

set_option maxHeartbeats 1000000 in
theorem containsFunc (p : Int → Bool) (g : Nat) (lb : Array Value) (eg : ∀ args w, (callFunc g args).run Try.prog w = .ok (.enter g args) w) (A : Option Addr) (c : Nat) (zs : List Int) (w : World)
    (hp : Answers g lb (Value.int .i64) p w) (hr : Kd.C (Kd.int .i64) w A zs.length zs) :
    Calls Try.prog 54 #[.slice A zs.length c, .func (.func g) #[] lb] w fun e w' => e = .returned (.bool (zs.any p)) ∧ Below w.heap.size w w' := by
  have e1 : zs.any p = decide (0 ≤ Lib.idxBy (fun _ y => p y) zs (0 : Int)) := (Lib.idxBy_nonneg_iff (fun _ y => p y) zs (0 : Int)).symm
  rw [e1]
  go_enter Try.func54, Try.ntmps54
  go_wp2_with (go_at_call 60; refine (indexFunc p g lb eg A c zs _ hp hr).mono ?_; rintro e w' ⟨rfl, hb⟩)
  go_ret
  exact ⟨rfl, hb⟩

theorem in_any (x a b : Int) (w : World) : Calls Try.prog 42 #[.int .i64 x, .int .i64 a, .int .i64 b] w fun e w' => e = .returned (.bool (decide (a ≤ x) && decide (x ≤ b))) ∧ w' = w := by
  by_cases h : a ≤ x
  · go_enter Try.func42, Try.ntmps42
    go_wp2
    all_goals (go_ret; exact ⟨by first | (simp_all; done) | (simp_all; omega), rfl⟩)
  · go_enter Try.func42, Try.ntmps42
    go_wp2
    all_goals (go_ret; exact ⟨by first | (simp_all; done) | (simp_all; omega), rfl⟩)
theorem all_clo (lo hi : Int) (B1 B2 : Nat) (w : World) (h1 : B1 < w.heap.size) (h2 : B2 < w.heap.size) (c1 : w.cell? ⟨B1, 0, none⟩ = some (.int .i64 lo)) (c2 : w.cell? ⟨B2, 0, none⟩ = some (.int .i64 hi)) :
    Answers 56 #[.pointer (some ⟨B1, 0, none⟩), .pointer (some ⟨B2, 0, none⟩)] (Value.int .i64) (fun x => !(decide (lo ≤ x) && decide (x ≤ hi))) w := fun W x hb => by
  have d1 : W.cell? ⟨B1, 0, none⟩ = some (.int .i64 lo) := (hb.cell (p := ⟨B1, 0, none⟩) h1).trans c1
  have d2 : W.cell? ⟨B2, 0, none⟩ = some (.int .i64 hi) := (hb.cell (p := ⟨B2, 0, none⟩) h2).trans c2
  clear c1 c2 hb
  show Calls Try.prog 56 #[.int .i64 x, .pointer (some ⟨B1, 0, none⟩), .pointer (some ⟨B2, 0, none⟩)] W _
  go_enter Try.func56, Try.ntmps56
  go_wp2_with (go_at_call 42; refine (in_any x lo hi _).mono ?_; rintro e w' ⟨rfl, rfl⟩)
  all_goals (go_ret; exact ⟨by simp, by first | exact Below.refl _ _ | exact below_drewN' (Below.refl _ _) _⟩)
set_option maxHeartbeats 1000000 in
theorem all_any (A : Option Addr) (c : Nat) (l : List Int) (lo hi : Int) (w : World) (hr : Kd.C (Kd.int .i64) w A l.length l) :
    Calls Try.prog 40 #[.slice A l.length c, .int .i64 lo, .int .i64 hi] w fun e w' => e = .returned (.bool (l.all fun x => decide (lo ≤ x) && decide (x ≤ hi))) ∧ Below w.heap.size w w' := by
  rw [← any_not l]
  have eg : ∀ args w, (callFunc 56 args).run Try.prog w = .ok (.enter 56 args) w := enters_of Try.func56 (by kernel_rfl) rfl
  have hb1 : Below w.heap.size w (w.alloc (.cells #[.int .i64 lo] 3)) := (Below.refl _ _).alloc (Nat.le_refl _) _
  have hb2 : Below w.heap.size w ((w.alloc (.cells #[.int .i64 lo] 3)).alloc (.cells #[.int .i64 hi] 3)) := hb1.alloc (by simp) _
  have hcon := containsFunc (fun x => !(decide (lo ≤ x) && decide (x ≤ hi))) 56 #[.pointer (some ⟨w.heap.size, 0, none⟩), .pointer (some ⟨w.heap.size + 1, 0, none⟩)] eg A c l _
    (all_clo lo hi w.heap.size (w.heap.size + 1) ((w.alloc (.cells #[.int .i64 lo] 3)).alloc (.cells #[.int .i64 hi] 3)) (by simp; omega) (by simp) (by go_simp) (by go_simp)) (Kd.C_below hr hb2)
  have H := Aside0.mk hb2
  clear hb1 hb2 hr eg
  generalize (l.any fun x => !(decide (lo ≤ x) && decide (x ≤ hi))) = r at hcon ⊢
  go_enter Try.func40, Try.ntmps40
  go_wp2_with (go_at_call 54; refine hcon.mono ?_; rintro e w' ⟨rfl, hb'⟩)
  go_ret
  exact ⟨rfl, H.out.trans (hb'.mono H.out.size)⟩
end Go.Proofs.Ytdhnbikjfckmaaa.Cf
