/- The constants' law, walked. -/
import Derived.Test.YtfbgjjmnkkgioaaProg
import Derived.WalkKit
import Derived.KernelRfl
namespace Go.Proofs.Ytfbgjjmnkkgioaa.Fl
open Go Go.RowKit
set_option linter.unusedVariables false
set_option linter.unusedSimpArgs false

set_option maxRecDepth 1000000 in
set_option maxHeartbeats 80000000 in
theorem law_Constants (w : World) : Calls Try.prog 3 #[] w fun e w' => e = .returned (.bool true) ∧ Below w.heap.size w w' := by
  go_enter Try.func3, Try.ntmps3
  go_wp2
  all_goals (go_ret; exact ⟨rfl, Below.refl _ _⟩)
end Go.Proofs.Ytfbgjjmnkkgioaa.Fl
