/-
  No cell of these rows narrows 'for every input' (looked for: loops, veiled, ifaces, maps, wideKeys, modest, calm, conditions, laid).
  DERIVED. THE GIVEN ROWS OF THIS SEAT. 8 by the template 'for every input the law returns true; each argument reads behind the call as it read before'; 0 by the template 'total and deterministic' (their statements: YtdhnbikjfckmaaaTotals.lean).
  GIVEN WITH THE SEED: the statements are not yours to turn. If you find one false, say at which input.
  Laid BY PROGRAM, IN A SANDBOX (cutbox-rows.mjs): the forced cells as the released guide's own fill.sh prints them over the translation 02623dd987b7e6b8… (all of the seat's roots in one cut). By AI agents, Wed Nov 11 2026. No macro, syntax, notation, axiom, sorry.
-/
import Derived.Test.YtdhnbikjfckmaaaChecked
import GoSem.Claim
import GoSem.ClaimJoined
import GoSem.ClaimMapViews
import Derived.JoinedTies
import Derived.KernelRfl
namespace Go.Proofs.Ytdhnbikjfckmaaa
/- THE CELL 'sum', in the pinned program and in every row, IS THE sha256 OF THE DUMP (.gsa) THAT YtdhnbikjfckmaaaProg.lean LOADS. Nothing in Lean hashes anything: it is a label: what it is worth is what the hold of that sum in a sandbox is worth. -/
noncomputable def Try.pinned : Pinned := { name := "ytdhnbikjfckmaaa", sum := "02623dd987b7e6b885d22f1be56dc3010cf55486a9850e653c298ab9b5bf0f2d", checked := Try.checked }
namespace Rows
def none {H : Type} : Left H := { results := [], args := [] }

/-- 'laws.FnExactGreatest': WHATEVER THE INPUT: true; the input reads as it did. -/
def fnExactGreatestSpec : ChangeSpec := { name := "fnExactGreatest", fn := fun _ => fun
  | [d] => { results := [.lit (.bool true)], args := [d] }
  | _ => none }
def fnExactGreatestRow : OpenClaim := { program := "ytdhnbikjfckmaaa", sum := "02623dd987b7e6b885d22f1be56dc3010cf55486a9850e653c298ab9b5bf0f2d", func := "loop.example/g00059/laws.FnExactGreatest", spec := "fnExactGreatest", apart := false }
def FnExactGreatestSaid : Prop := fnExactGreatestRow.holds Try.pinned (OpenSpec.ofChange fnExactGreatestSpec)

/-- ITS FALSE NEIGHBOUR: 'it returns false'. Refute it at one input. -/
def fnExactGreatestWrong : ChangeSpec := { name := "fnExactGreatest", fn := fun _ => fun
  | [d] => { results := [.lit (.bool false)], args := [d] }
  | _ => none }
def FnExactGreatestWrongFalsely : Prop := fnExactGreatestRow.holds Try.pinned (OpenSpec.ofChange fnExactGreatestWrong)

/-- 'laws.FnExactShear2': WHATEVER THE INPUT: true; the input reads as it did. -/
def fnExactShear2Spec : ChangeSpec := { name := "fnExactShear2", fn := fun _ => fun
  | [d1, d2] => { results := [.lit (.bool true)], args := [d1, d2] }
  | _ => none }
def fnExactShear2Row : OpenClaim := { program := "ytdhnbikjfckmaaa", sum := "02623dd987b7e6b885d22f1be56dc3010cf55486a9850e653c298ab9b5bf0f2d", func := "loop.example/g00059/laws.FnExactShear2", spec := "fnExactShear2", unfollowed := true, recurses := true, apart := false }
def FnExactShear2Said : Prop := fnExactShear2Row.holds Try.pinned (OpenSpec.ofChange fnExactShear2Spec)

/-- ITS FALSE NEIGHBOUR: 'it returns false'. Refute it at one input. -/
def fnExactShear2Wrong : ChangeSpec := { name := "fnExactShear2", fn := fun _ => fun
  | [d1, d2] => { results := [.lit (.bool false)], args := [d1, d2] }
  | _ => none }
def FnExactShear2WrongFalsely : Prop := fnExactShear2Row.holds Try.pinned (OpenSpec.ofChange fnExactShear2Wrong)

/-- 'laws.FnExactBalanced': WHATEVER THE INPUT: true; the input reads as it did. -/
def fnExactBalancedSpec : ChangeSpec := { name := "fnExactBalanced", fn := fun _ => fun
  | [d1, d2, d3] => { results := [.lit (.bool true)], args := [d1, d2, d3] }
  | _ => none }
def fnExactBalancedRow : OpenClaim := { program := "ytdhnbikjfckmaaa", sum := "02623dd987b7e6b885d22f1be56dc3010cf55486a9850e653c298ab9b5bf0f2d", func := "loop.example/g00059/laws.FnExactBalanced", spec := "fnExactBalanced", unfollowed := true, recurses := true, apart := false }
def FnExactBalancedSaid : Prop := fnExactBalancedRow.holds Try.pinned (OpenSpec.ofChange fnExactBalancedSpec)

/-- ITS FALSE NEIGHBOUR: 'it returns false'. Refute it at one input. -/
def fnExactBalancedWrong : ChangeSpec := { name := "fnExactBalanced", fn := fun _ => fun
  | [d1, d2, d3] => { results := [.lit (.bool false)], args := [d1, d2, d3] }
  | _ => none }
def FnExactBalancedWrongFalsely : Prop := fnExactBalancedRow.holds Try.pinned (OpenSpec.ofChange fnExactBalancedWrong)

/-- 'laws.FnExactBending4': WHATEVER THE INPUT: true; the input reads as it did. -/
def fnExactBending4Spec : ChangeSpec := { name := "fnExactBending4", fn := fun _ => fun
  | [d1, d2, d3] => { results := [.lit (.bool true)], args := [d1, d2, d3] }
  | _ => none }
def fnExactBending4Row : OpenClaim := { program := "ytdhnbikjfckmaaa", sum := "02623dd987b7e6b885d22f1be56dc3010cf55486a9850e653c298ab9b5bf0f2d", func := "loop.example/g00059/laws.FnExactBending4", spec := "fnExactBending4", unfollowed := true, recurses := true, apart := false }
def FnExactBending4Said : Prop := fnExactBending4Row.holds Try.pinned (OpenSpec.ofChange fnExactBending4Spec)

/-- ITS FALSE NEIGHBOUR: 'it returns false'. Refute it at one input. -/
def fnExactBending4Wrong : ChangeSpec := { name := "fnExactBending4", fn := fun _ => fun
  | [d1, d2, d3] => { results := [.lit (.bool false)], args := [d1, d2, d3] }
  | _ => none }
def FnExactBending4WrongFalsely : Prop := fnExactBending4Row.holds Try.pinned (OpenSpec.ofChange fnExactBending4Wrong)

/-- 'laws.FnExactRadiosOk': WHATEVER THE INPUT: true; the input reads as it did. -/
def fnExactRadiosOkSpec : ChangeSpec := { name := "fnExactRadiosOk", fn := fun _ => fun
  | [d] => { results := [.lit (.bool true)], args := [d] }
  | _ => none }
def fnExactRadiosOkRow : OpenClaim := { program := "ytdhnbikjfckmaaa", sum := "02623dd987b7e6b885d22f1be56dc3010cf55486a9850e653c298ab9b5bf0f2d", func := "loop.example/g00059/laws.FnExactRadiosOk", spec := "fnExactRadiosOk", apart := false }
def FnExactRadiosOkSaid : Prop := fnExactRadiosOkRow.holds Try.pinned (OpenSpec.ofChange fnExactRadiosOkSpec)

/-- ITS FALSE NEIGHBOUR: 'it returns false'. Refute it at one input. -/
def fnExactRadiosOkWrong : ChangeSpec := { name := "fnExactRadiosOk", fn := fun _ => fun
  | [d] => { results := [.lit (.bool false)], args := [d] }
  | _ => none }
def FnExactRadiosOkWrongFalsely : Prop := fnExactRadiosOkRow.holds Try.pinned (OpenSpec.ofChange fnExactRadiosOkWrong)

/-- 'laws.FnExactSeaOk': WHATEVER THE INPUT: true; the input reads as it did. -/
def fnExactSeaOkSpec : ChangeSpec := { name := "fnExactSeaOk", fn := fun _ => fun
  | [d] => { results := [.lit (.bool true)], args := [d] }
  | _ => none }
def fnExactSeaOkRow : OpenClaim := { program := "ytdhnbikjfckmaaa", sum := "02623dd987b7e6b885d22f1be56dc3010cf55486a9850e653c298ab9b5bf0f2d", func := "loop.example/g00059/laws.FnExactSeaOk", spec := "fnExactSeaOk", unfollowed := true, recurses := true, apart := false }
def FnExactSeaOkSaid : Prop := fnExactSeaOkRow.holds Try.pinned (OpenSpec.ofChange fnExactSeaOkSpec)

/-- ITS FALSE NEIGHBOUR: 'it returns false'. Refute it at one input. -/
def fnExactSeaOkWrong : ChangeSpec := { name := "fnExactSeaOk", fn := fun _ => fun
  | [d] => { results := [.lit (.bool false)], args := [d] }
  | _ => none }
def FnExactSeaOkWrongFalsely : Prop := fnExactSeaOkRow.holds Try.pinned (OpenSpec.ofChange fnExactSeaOkWrong)

/-- 'laws.FnExactChoose': WHATEVER THE INPUT: true; the input reads as it did. -/
def fnExactChooseSpec : ChangeSpec := { name := "fnExactChoose", fn := fun _ => fun
  | [d1, d2, d3] => { results := [.lit (.bool true)], args := [d1, d2, d3] }
  | _ => none }
def fnExactChooseRow : OpenClaim := { program := "ytdhnbikjfckmaaa", sum := "02623dd987b7e6b885d22f1be56dc3010cf55486a9850e653c298ab9b5bf0f2d", func := "loop.example/g00059/laws.FnExactChoose", spec := "fnExactChoose", unfollowed := true, recurses := true, apart := false }
def FnExactChooseSaid : Prop := fnExactChooseRow.holds Try.pinned (OpenSpec.ofChange fnExactChooseSpec)

/-- ITS FALSE NEIGHBOUR: 'it returns false'. Refute it at one input. -/
def fnExactChooseWrong : ChangeSpec := { name := "fnExactChoose", fn := fun _ => fun
  | [d1, d2, d3] => { results := [.lit (.bool false)], args := [d1, d2, d3] }
  | _ => none }
def FnExactChooseWrongFalsely : Prop := fnExactChooseRow.holds Try.pinned (OpenSpec.ofChange fnExactChooseWrong)

/-- 'laws.FnExactRelay': WHATEVER THE INPUT: true; the input reads as it did. -/
def fnExactRelaySpec : ChangeSpec := { name := "fnExactRelay", fn := fun _ => fun
  | [d1, d2] => { results := [.lit (.bool true)], args := [d1, d2] }
  | _ => none }
def fnExactRelayRow : OpenClaim := { program := "ytdhnbikjfckmaaa", sum := "02623dd987b7e6b885d22f1be56dc3010cf55486a9850e653c298ab9b5bf0f2d", func := "loop.example/g00059/laws.FnExactRelay", spec := "fnExactRelay", apart := false }
def FnExactRelaySaid : Prop := fnExactRelayRow.holds Try.pinned (OpenSpec.ofChange fnExactRelaySpec)

/-- ITS FALSE NEIGHBOUR: 'it returns false'. Refute it at one input. -/
def fnExactRelayWrong : ChangeSpec := { name := "fnExactRelay", fn := fun _ => fun
  | [d1, d2] => { results := [.lit (.bool false)], args := [d1, d2] }
  | _ => none }
def FnExactRelayWrongFalsely : Prop := fnExactRelayRow.holds Try.pinned (OpenSpec.ofChange fnExactRelayWrong)

/- THE SECOND FORM. 'bulk': how many values and letters a reading holds, each counted each time it is reached (what is shared counts as often as it is met; a slice's spare places count too). A statement '..UptoSaid' is the law's where the arguments, and the package variables that the reading takes, are together of bulk at most 1048576: NARROWER than '..Said'. Prove '..Said' where nothing that the law and all that it calls make is longer than what came in: it says more and counts as full. Else prove '..UptoSaid'. A law counts once. -/
mutual
def uptoBulk {H : Type} : DataW H → Nat
  | .lit (.string bytes) => bytes.length + 1
  | .lit _ => 1
  | .nil => 1
  | .ptr d => uptoBulk d + 1
  | .slice elems spare => uptoBulkAll elems + uptoBulkAll spare + 1
  | .agg parts => uptoBulkAll parts + 1
  | .iface _ d => uptoBulk d + 1
  | .map entries => uptoBulkEntries entries + 1
  | .held _ => 1
def uptoBulkAll {H : Type} : List (DataW H) → Nat
  | [] => 0
  | d :: r => uptoBulk d + uptoBulkAll r
def uptoBulkEntries {H : Type} : List (Lit × DataW H) → Nat
  | [] => 0
  | x :: r => uptoBulkEntry x + uptoBulkEntries r
def uptoBulkEntry {H : Type} : Lit × DataW H → Nat
  | (.string bytes, d) => bytes.length + uptoBulk d + 1
  | (_, d) => uptoBulk d + 1
 end
def uptoSmall : (H : Type) → List (DataW H) → Bool := fun _ ds => decide (uptoBulkAll ds ≤ 1048576)
def OpenSpec.upto (s : _root_.Go.ChangeSpec) : _root_.Go.OpenSpec := { _root_.Go.OpenSpec.ofChange s with cond := some uptoSmall }

/-- 'laws.FnExactGreatest', WHERE WHAT IT READS IS OF BULK AT MOST 1048576: true; the input reads as it did. -/
def fnExactGreatestUptoRow : OpenClaim := { program := "ytdhnbikjfckmaaa", sum := "02623dd987b7e6b885d22f1be56dc3010cf55486a9850e653c298ab9b5bf0f2d", func := "loop.example/g00059/laws.FnExactGreatest", spec := "fnExactGreatest", apart := false, narrowed := true }
def FnExactGreatestUptoSaid : Prop := fnExactGreatestUptoRow.holds Try.pinned (OpenSpec.upto fnExactGreatestSpec)

/-- 'laws.FnExactShear2', WHERE WHAT IT READS IS OF BULK AT MOST 1048576: true; the input reads as it did. -/
def fnExactShear2UptoRow : OpenClaim := { program := "ytdhnbikjfckmaaa", sum := "02623dd987b7e6b885d22f1be56dc3010cf55486a9850e653c298ab9b5bf0f2d", func := "loop.example/g00059/laws.FnExactShear2", spec := "fnExactShear2", unfollowed := true, recurses := true, apart := false, narrowed := true }
def FnExactShear2UptoSaid : Prop := fnExactShear2UptoRow.holds Try.pinned (OpenSpec.upto fnExactShear2Spec)

/-- 'laws.FnExactBalanced', WHERE WHAT IT READS IS OF BULK AT MOST 1048576: true; the input reads as it did. -/
def fnExactBalancedUptoRow : OpenClaim := { program := "ytdhnbikjfckmaaa", sum := "02623dd987b7e6b885d22f1be56dc3010cf55486a9850e653c298ab9b5bf0f2d", func := "loop.example/g00059/laws.FnExactBalanced", spec := "fnExactBalanced", unfollowed := true, recurses := true, apart := false, narrowed := true }
def FnExactBalancedUptoSaid : Prop := fnExactBalancedUptoRow.holds Try.pinned (OpenSpec.upto fnExactBalancedSpec)

/-- 'laws.FnExactBending4', WHERE WHAT IT READS IS OF BULK AT MOST 1048576: true; the input reads as it did. -/
def fnExactBending4UptoRow : OpenClaim := { program := "ytdhnbikjfckmaaa", sum := "02623dd987b7e6b885d22f1be56dc3010cf55486a9850e653c298ab9b5bf0f2d", func := "loop.example/g00059/laws.FnExactBending4", spec := "fnExactBending4", unfollowed := true, recurses := true, apart := false, narrowed := true }
def FnExactBending4UptoSaid : Prop := fnExactBending4UptoRow.holds Try.pinned (OpenSpec.upto fnExactBending4Spec)

/-- 'laws.FnExactRadiosOk', WHERE WHAT IT READS IS OF BULK AT MOST 1048576: true; the input reads as it did. -/
def fnExactRadiosOkUptoRow : OpenClaim := { program := "ytdhnbikjfckmaaa", sum := "02623dd987b7e6b885d22f1be56dc3010cf55486a9850e653c298ab9b5bf0f2d", func := "loop.example/g00059/laws.FnExactRadiosOk", spec := "fnExactRadiosOk", apart := false, narrowed := true }
def FnExactRadiosOkUptoSaid : Prop := fnExactRadiosOkUptoRow.holds Try.pinned (OpenSpec.upto fnExactRadiosOkSpec)

/-- 'laws.FnExactSeaOk', WHERE WHAT IT READS IS OF BULK AT MOST 1048576: true; the input reads as it did. -/
def fnExactSeaOkUptoRow : OpenClaim := { program := "ytdhnbikjfckmaaa", sum := "02623dd987b7e6b885d22f1be56dc3010cf55486a9850e653c298ab9b5bf0f2d", func := "loop.example/g00059/laws.FnExactSeaOk", spec := "fnExactSeaOk", unfollowed := true, recurses := true, apart := false, narrowed := true }
def FnExactSeaOkUptoSaid : Prop := fnExactSeaOkUptoRow.holds Try.pinned (OpenSpec.upto fnExactSeaOkSpec)

/-- 'laws.FnExactChoose', WHERE WHAT IT READS IS OF BULK AT MOST 1048576: true; the input reads as it did. -/
def fnExactChooseUptoRow : OpenClaim := { program := "ytdhnbikjfckmaaa", sum := "02623dd987b7e6b885d22f1be56dc3010cf55486a9850e653c298ab9b5bf0f2d", func := "loop.example/g00059/laws.FnExactChoose", spec := "fnExactChoose", unfollowed := true, recurses := true, apart := false, narrowed := true }
def FnExactChooseUptoSaid : Prop := fnExactChooseUptoRow.holds Try.pinned (OpenSpec.upto fnExactChooseSpec)

/-- 'laws.FnExactRelay', WHERE WHAT IT READS IS OF BULK AT MOST 1048576: true; the input reads as it did. -/
def fnExactRelayUptoRow : OpenClaim := { program := "ytdhnbikjfckmaaa", sum := "02623dd987b7e6b885d22f1be56dc3010cf55486a9850e653c298ab9b5bf0f2d", func := "loop.example/g00059/laws.FnExactRelay", spec := "fnExactRelay", apart := false, narrowed := true }
def FnExactRelayUptoSaid : Prop := fnExactRelayUptoRow.holds Try.pinned (OpenSpec.upto fnExactRelaySpec)

end Rows
end Go.Proofs.Ytdhnbikjfckmaaa
