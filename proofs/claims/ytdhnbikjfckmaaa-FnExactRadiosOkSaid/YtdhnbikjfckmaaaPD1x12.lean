-- printed for this claim out of the translation
import Derived.Test.YtdhnbikjfckmaaaPD1x0
namespace Go.Proofs.Ytdhnbikjfckmaaa.PD1
open Go.RowKit Go.Proofs.YtdhnbikjfckmaaaW.PrintWords Go.Proofs.YtdhnbikjfckmaaaW.PrintLast Go.Proofs.YtdhnbikjfckmaaaW.PrintMore
attribute [local go_sem] max2_int min2_int max_two min_two max_three min_three max_four min_four   -- for this text's walks alone
set_option linter.unusedVariables false
set_option linter.unusedSimpArgs false

/-! ### impl_all: function 40 -/
def impl_all.f (l0 : List Int) (a1 : Int) (a2 : Int) : Option (Bool) := some (l0.all fun x => decide (a1 ≤ x) && decide (x ≤ a2))
theorem impl_all.calls (A0 : Option Addr) (c0 : Nat) (l0 : List Int) (a1 : Int) (a2 : Int) (r : Bool) (w : World) (hr0 : Kd.C (Kd.int .i64) w A0 l0.length l0) (hc0 : l0.length ≤ c0) (h : impl_all.f l0 a1 a2 = some r) :
    Calls Try.prog 40 #[.slice A0 l0.length c0, .int .i64 a1, .int .i64 a2] w fun e w' => e = .returned (.bool r) ∧ Below w.heap.size w w' := by
  obtain rfl : (l0.all fun x => decide (a1 ≤ x) && decide (x ≤ a2)) = r := Option.some.inj h
  exact Cf.all_any A0 c0 l0 a1 a2 w hr0

end Go.Proofs.Ytdhnbikjfckmaaa.PD1
