/- strips: the sum of a function over neighbouring strips of a hull at a water line, for whatever function of two numbers is handed on. -/
import Derived.Test.YteggnboikjjaiaaCf
import Derived.Deep.QuietTactic
import Derived.BigQuiet
import Derived.IntWalk
namespace Go.Proofs.Yteggnboikjjaiaa.Cf
open Go Go.RowKit Go.Lib Go.Proofs.YteggnboikjjaiaaW.PrintWords
set_option linter.unusedVariables false
set_option linter.unusedSimpArgs false

def cellAt (l : List (List Int)) (m k : Nat) : Int := (l.getD k []).getD m 0
def stripAcc (g : Int → Int → Int) (s : Int) (l : List (List Int)) (m : Nat) : Nat → Int
  | 0 => 0
  | k + 1 => wrap64 (stripAcc g s l m k + wrap64 (s * g (cellAt l m k) (cellAt l m (k + 1))))

theorem row_cells {e : Nat} {w : World} {A : Option Addr} {l : List (List Int)} (hr : Kd.C (Kd.slice e (Kd.int .i64)) w A l.length l) (m k : Nat) (hk : k < l.length) (hm : m < (l.getD k []).length) :
    ∃ ad A' c' ad', A = some ad ∧ w.cell? (ad.add k) = some (.slice A' (l.getD k []).length c') ∧ A' = some ad' ∧ w.cell? (ad'.add m) = some (.int .i64 (cellAt l m k)) := by
  obtain ⟨ad, cs, e1, hl, hK, hcell⟩ := Kd.C_get hr ([] : List Int) (k : Int) (by omega) (by omega)
  obtain ⟨A', c', rfl, hlc, hC⟩ := hK
  have h0 := hcell 0 _ rfl
  have e3 : (k : Int).toNat * Kd.sz (Kd.slice e (Kd.int .i64)) + 0 = k := by simp [Kd.slice]
  rw [e3] at h0
  have e4 : l.getD (k : Int).toNat [] = l.getD k [] := by rw [Int.toNat_natCast]
  rw [e4] at h0 hC
  obtain ⟨ad', cs', e2, hl', hK', hcell'⟩ := Kd.C_get hC (0 : Int) (m : Int) (by omega) (by omega)
  obtain rfl : cs' = [Value.int .i64 ((l.getD k []).getD (m : Int).toNat 0)] := hK'
  have h1 := hcell' 0 _ rfl
  have e5 : (m : Int).toNat * Kd.sz (Kd.int .i64) + 0 = m := by simp [Kd.int, Kd.scalar]
  rw [e5, Int.toNat_natCast] at h1
  exact ⟨ad, A', c', ad', e1, h0, e2, h1⟩

set_option maxHeartbeats 1000000 in
theorem strips_any (g : Nat) (fg : Int → Int → Int) (hg : ∀ (W : World) (a b : Int), Calls Try.prog g #[.int .i64 a, .int .i64 b] W fun e w' => e = .returned (.int .i64 (fg a b)) ∧ w' = W)
    (eg : ∀ args w, (callFunc g args).run Try.prog w = .ok (.enter g args) w) (s r : Int) (A : Option Addr) (c : Nat) (l : List (List Int)) (m : Nat) (w : World)
    (hr : Kd.C (Kd.slice 3 (Kd.int .i64)) w A l.length l) (h0 : 1 ≤ l.length) (hm : ∀ k, k < l.length → m < (l.getD k []).length) :
    Calls Try.prog 69 #[.agg #[.int .i64 s, .int .i64 r, .slice A l.length c], .int .i64 (m : Int), .func (.func g) #[] #[]] w
      fun e w' => e = .returned (.int .i64 (stripAcc fg s l m (l.length - 1))) ∧ Below w.heap.size w w' := by
  have hl := hr.2.1
  have hb1 : Below w.heap.size w (w.alloc (.cells #[.int .i64 s, .int .i64 r, .slice A l.length c] 39)) := (Below.refl _ _).alloc (Nat.le_refl _) _
  have HR := Aside0.mk (Kd.C_below hr hb1)
  have HB := Aside0.mk hb1
  have HM := Aside0.mk hm
  have HG := Aside0.mk hg
  clear hr hb1 hm hg
  have e1 : IntKind.i64.wrap ((l.length : Int) - 1) = (l.length : Int) - 1 := IntWalk.i64_in _ (by omega)
  go_enter Try.func69, Try.ntmps69
  go_wp2
  have z2 : (w.alloc (.cells #[.int .i64 s, .int .i64 r, .slice A l.length c] 39)).cell? ⟨w.heap.size, 2, none⟩ = some (.slice A l.length c) := by go_simp
  have z0 : (w.alloc (.cells #[.int .i64 s, .int .i64 r, .slice A l.length c] 39)).cell? ⟨w.heap.size, 0, none⟩ = some (.int .i64 s) := by go_simp
  have hz : w.heap.size < (w.alloc (.cells #[.int .i64 s, .int .i64 r, .slice A l.length c] 39)).heap.size := by simp
  have HZ := Aside0.mk (And.intro hz (And.intro z0 z2))
  clear z0 z2 hz
  generalize w.alloc (.cells #[.int .i64 s, .int .i64 r, .slice A l.length c] 39) = W at *
  go_loopw [7, 13] (fun s7 s13 wr => ∃ k : Nat, k + 1 ≤ l.length ∧ s13 = .int .i64 k ∧ s7 = .int .i64 (stripAcc fg s l m k) ∧ Aside0 (Below W.heap.size W wr)) (fun _ i _ => l.length - (RowKit.intOf i).toNat)
  case atStart => exact ⟨0, h0, rfl, rfl, ⟨Below.refl _ _⟩⟩
  case round =>
    obtain ⟨k, hk, rfl, rfl, BW⟩ := hrel
    by_cases hlt : k + 1 < l.length
    · have hd : decide ((k : Int) < (l.length : Int) - 1) = true := decide_eq_true (by omega)
      have HRW := Kd.C_below HR.out BW.out
      obtain ⟨ad, A1, c1, ad1, e2, x1, e3, y1⟩ := row_cells HRW m k (by omega) (HM.out k (by omega))
      obtain ⟨ad2, A2, c2, ad3, e4, x2, e5, y2⟩ := row_cells HRW m (k + 1) (by omega) (HM.out (k + 1) (by omega))
      subst e2
      obtain rfl := Option.some.inj e4
      subst e3
      subst e5
      have z2 : wr.cell? ⟨w.heap.size, 2, none⟩ = some (.slice (some ad) l.length c) := (BW.out.cell (p := ⟨w.heap.size, 2, none⟩) HZ.out.1).trans HZ.out.2.2
      have z0 : wr.cell? ⟨w.heap.size, 0, none⟩ = some (.int .i64 s) := (BW.out.cell (p := ⟨w.heap.size, 0, none⟩) HZ.out.1).trans HZ.out.2.1
      have hcall := fun W => HG.out W (cellAt l m k) (cellAt l m (k + 1))
      have q1 : (m : Int) < ((l.getD k []).length : Int) := by have := HM.out k (by omega); omega
      have q2 : (m : Int) < ((l.getD (k + 1) []).length : Int) := by have := HM.out (k + 1) (by omega); omega
      generalize (l.getD k []).length = n1 at x1 q1
      generalize (l.getD (k + 1) []).length = n2 at x2 q2
      rw [show ad.add (k + 1) = ⟨ad.block, ad.off + (k + 1), none⟩ from by simp [Addr.add]] at x2
      have q3 : (k : Int) < (l.length : Int) := by omega
      have q4 : (k : Int) + 1 < (l.length : Int) := by omega
      have q5 : (0 : Int) ≤ (k : Int) := by omega
      have q6 : (0 : Int) ≤ (k : Int) + 1 := by omega
      have q7 : (0 : Int) ≤ (m : Int) := by omega
      have e6 : IntKind.i64.wrap ((k : Int) + 1) = (k : Int) + 1 := IntWalk.i64_in _ (by omega)
      have e7 : ((k : Int) + 1).toNat = k + 1 := by omega
      have H1 := Aside0.mk hlt
      have H2 := Aside0.mk hk
      clear HR HM HG hlt hk h0 HRW
      go_wp2
      go_quiet (exact Calls.quiet_of_same (hcall _))
      go_wp2
      go_roundw
      case rel => exact ⟨k + 1, H1.out, by go_num, rfl, ⟨(by repeat (first | exact BW.out | apply pw_below_drewN))⟩⟩
      case measure => simp [RowKit.intOf]; omega
    · have hd : decide ((k : Int) < (l.length : Int) - 1) = false := decide_eq_false (by omega)
      have hkl : k = l.length - 1 := by omega
      clear HR HM HG hlt hk h0
      go_wp2
      go_ret
      rw [hkl]
      exact ⟨rfl, HB.out.trans (BW.out.mono HB.out.size)⟩
end Go.Proofs.Yteggnboikjjaiaa.Cf
