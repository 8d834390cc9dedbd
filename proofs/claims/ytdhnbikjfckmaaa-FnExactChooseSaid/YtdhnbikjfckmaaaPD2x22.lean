-- printed for this claim out of the translation
import Derived.Test.YtdhnbikjfckmaaaPD2x0
import Derived.Test.YtdhnbikjfckmaaaPD2x19
namespace Go.Proofs.Ytdhnbikjfckmaaa.PD2
open Go.RowKit Go.Proofs.YtdhnbikjfckmaaaW.PrintWords Go.Proofs.YtdhnbikjfckmaaaW.PrintLast Go.Proofs.YtdhnbikjfckmaaaW.PrintMore
attribute [local go_sem] max2_int min2_int max_two min_two max_three min_three max_four min_four   -- for this text's walks alone
set_option linter.unusedVariables false
set_option linter.unusedSimpArgs false

/-! ### impl_Choose: function 34 -/
instance : Inhabited S64 := ⟨z64⟩
def impl_Choose.g (ok : Bool) (l0 : List S64) (a1 : Int) (a2 : Int) : Option (Int × Bool) :=
  if ((ok && (decide (0 ≤ a1) && decide (a1 ≤ (l0.length : Int) - 1))) && !(l0[a1.toNat]!.f2.all fun h => decide (0 ≤ h) && decide (h < (l0.length : Int)))) = true then none else some (Ch.chooseG (fun x : S64 => x.f1) (fun x => x.f2) ok l0 a1 a2)
def impl_Choose.f (k : Nat) (l0 : List S64) (a1 : Int) (a2 : Int) : Option (Int × Bool) := (impl_RadiosOk.f k l0).bind fun ok => impl_Choose.g ok l0 a1 a2
theorem impl_Choose.mono : ∀ a0 a1 a2 k, LeO (impl_Choose.f k a0 a1 a2) (impl_Choose.f (k + 1) a0 a1 a2) := by
  intro a0 a1 a2 k
  exact LeO.bind (impl_RadiosOk.mono a0 k) (fun _ => LeO.refl _)
theorem impl_Choose.calls (k : Nat) (A0 : Option Addr) (c0 : Nat) (l0 : List S64) (a1 : Int) (a2 : Int) (r1 : Int) (r2 : Bool) (w : World) (hr0 : Kd.C k64 w A0 l0.length l0) (hc0 : l0.length ≤ c0) (h : impl_Choose.f k l0 a1 a2 = some (r1, r2)) :
    Calls Try.prog 34 #[.slice A0 l0.length c0, .int .i64 a1, .int .i64 a2] w fun e w' => e = .returned (.tuple #[.int .i64 r1, .bool r2]) ∧ Below w.heap.size w w' := by
  unfold impl_Choose.f at h
  obtain ⟨ok, hok, h⟩ := Option.bind_eq_some_iff.mp h
  unfold impl_Choose.g at h
  split at h
  · cases h
  · rename_i hn
    have hrad : Ch.Radios (fun x : S64 => x.f1) (fun x => x.f2) A0 l0 w := ⟨fun j hj => by
      obtain ⟨ad, A2, c2, e, h0, h1, h2, h3, h4⟩ := at_T64 hr0 (j : Int) (by omega) (by omega)
      have e2 : rd_T64 l0 (j : Int) = l0[j]! := by simp [rd_T64, List.getD_eq_getElem?_getD, hj]
      rw [e2] at h1 h2 h3 h4
      rw [Int.toNat_natCast] at h1 h2
      exact ⟨ad, A2, c2, e, h1, h2, h3, h4⟩⟩
    have := Ch.choose_any (fun x : S64 => x.f1) (fun x => x.f2) A0 c0 l0 a1 a2 ok w hr0.2.1 (fun W hb => impl_RadiosOk.calls k A0 c0 l0 ok W (Kd.C_below hr0 hb) hc0 hok) hrad (fun e0 e1 e2 x hx => by
      rw [e0, decide_eq_true e1, decide_eq_true e2] at hn
      have hall : (l0[a1.toNat]!.f2.all fun h => decide (0 ≤ h) && decide (h < (l0.length : Int))) = true := by
        cases hh : (l0[a1.toNat]!.f2.all fun h => decide (0 ≤ h) && decide (h < (l0.length : Int)))
        · rw [hh] at hn
          exact absurd rfl hn
        · rfl
      have := List.all_eq_true.1 hall x hx
      simp only [Bool.and_eq_true, decide_eq_true_eq] at this
      exact this)
    have e3 := Option.some.inj h
    rw [e3] at this
    exact this

end Go.Proofs.Ytdhnbikjfckmaaa.PD2
