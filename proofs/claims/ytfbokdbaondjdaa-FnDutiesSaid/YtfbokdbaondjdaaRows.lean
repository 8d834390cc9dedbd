/-
  No cell of these rows narrows 'for every input' (looked for: loops, veiled, ifaces, maps, wideKeys, modest, calm, conditions, laid).
  DERIVED. THE GIVEN ROWS OF THIS SEAT. 12 by the template 'for every input the law returns true; each argument reads behind the call as it read before'; 0 by the template 'total and deterministic' (their statements: YtfbokdbaondjdaaTotals.lean).
  GIVEN WITH THE SEED: the statements are not yours to turn. If you find one false, say at which input.
  Laid BY PROGRAM, IN A SANDBOX (cutbox-rows.mjs): the forced cells as the released guide's own fill.sh prints them over the translation 47f29f221fde5eb5… (all of the seat's roots in one cut). By AI agents, Wed Nov 11 2026. No macro, syntax, notation, axiom, sorry.
-/
import Derived.Test.YtfbokdbaondjdaaChecked
import GoSem.Claim
import GoSem.ClaimJoined
import GoSem.ClaimMapViews
import Derived.JoinedTies
import Derived.KernelRfl
namespace Go.Proofs.Ytfbokdbaondjdaa
/- THE CELL 'sum', in the pinned program and in every row, IS THE sha256 OF THE DUMP (.gsa) THAT YtfbokdbaondjdaaProg.lean LOADS. Nothing in Lean hashes anything: it is a label: what it is worth is what the hold of that sum in a sandbox is worth. -/
noncomputable def Try.pinned : Pinned := { name := "ytfbokdbaondjdaa", sum := "47f29f221fde5eb54d44b9395e66cecb625a794cc2b703c4831448d2c1c2ef2f", checked := Try.checked }
namespace Rows
def none {H : Type} : Left H := { results := [], args := [] }

/-- 'laws.FnExactShipOk': WHATEVER THE INPUT: true; the input reads as it did. -/
def fnExactShipOkSpec : ChangeSpec := { name := "fnExactShipOk", fn := fun _ => fun
  | [d] => { results := [.lit (.bool true)], args := [d] }
  | _ => none }
def fnExactShipOkRow : OpenClaim := { program := "ytfbokdbaondjdaa", sum := "47f29f221fde5eb54d44b9395e66cecb625a794cc2b703c4831448d2c1c2ef2f", func := "loop.example/g00059/laws.FnExactShipOk", spec := "fnExactShipOk", apart := false }
def FnExactShipOkSaid : Prop := fnExactShipOkRow.holds Try.pinned (OpenSpec.ofChange fnExactShipOkSpec)

/-- ITS FALSE NEIGHBOUR: 'it returns false'. Refute it at one input. -/
def fnExactShipOkWrong : ChangeSpec := { name := "fnExactShipOk", fn := fun _ => fun
  | [d] => { results := [.lit (.bool false)], args := [d] }
  | _ => none }
def FnExactShipOkWrongFalsely : Prop := fnExactShipOkRow.holds Try.pinned (OpenSpec.ofChange fnExactShipOkWrong)

/-- 'laws.FnExactReportOk': WHATEVER THE INPUT: true; the input reads as it did. -/
def fnExactReportOkSpec : ChangeSpec := { name := "fnExactReportOk", fn := fun _ => fun
  | [d] => { results := [.lit (.bool true)], args := [d] }
  | _ => none }
def fnExactReportOkRow : OpenClaim := { program := "ytfbokdbaondjdaa", sum := "47f29f221fde5eb54d44b9395e66cecb625a794cc2b703c4831448d2c1c2ef2f", func := "loop.example/g00059/laws.FnExactReportOk", spec := "fnExactReportOk", apart := false }
def FnExactReportOkSaid : Prop := fnExactReportOkRow.holds Try.pinned (OpenSpec.ofChange fnExactReportOkSpec)

/-- ITS FALSE NEIGHBOUR: 'it returns false'. Refute it at one input. -/
def fnExactReportOkWrong : ChangeSpec := { name := "fnExactReportOk", fn := fun _ => fun
  | [d] => { results := [.lit (.bool false)], args := [d] }
  | _ => none }
def FnExactReportOkWrongFalsely : Prop := fnExactReportOkRow.holds Try.pinned (OpenSpec.ofChange fnExactReportOkWrong)

/-- 'laws.FnDuties': WHATEVER THE INPUT: true; the input reads as it did. -/
def fnDutiesSpec : ChangeSpec := { name := "fnDuties", fn := fun _ => fun
  | [d] => { results := [.lit (.bool true)], args := [d] }
  | _ => none }
def fnDutiesRow : OpenClaim := { program := "ytfbokdbaondjdaa", sum := "47f29f221fde5eb54d44b9395e66cecb625a794cc2b703c4831448d2c1c2ef2f", func := "loop.example/g00059/laws.FnDuties", spec := "fnDuties", unfollowed := true, recurses := true, apart := false }
def FnDutiesSaid : Prop := fnDutiesRow.holds Try.pinned (OpenSpec.ofChange fnDutiesSpec)

/-- ITS FALSE NEIGHBOUR: 'it returns false'. Refute it at one input. -/
def fnDutiesWrong : ChangeSpec := { name := "fnDuties", fn := fun _ => fun
  | [d] => { results := [.lit (.bool false)], args := [d] }
  | _ => none }
def FnDutiesWrongFalsely : Prop := fnDutiesRow.holds Try.pinned (OpenSpec.ofChange fnDutiesWrong)

/-- 'laws.FnExactMoved': WHATEVER THE INPUT: true; the input reads as it did. -/
def fnExactMovedSpec : ChangeSpec := { name := "fnExactMoved", fn := fun _ => fun
  | [d1, d2] => { results := [.lit (.bool true)], args := [d1, d2] }
  | _ => none }
def fnExactMovedRow : OpenClaim := { program := "ytfbokdbaondjdaa", sum := "47f29f221fde5eb54d44b9395e66cecb625a794cc2b703c4831448d2c1c2ef2f", func := "loop.example/g00059/laws.FnExactMoved", spec := "fnExactMoved", apart := false }
def FnExactMovedSaid : Prop := fnExactMovedRow.holds Try.pinned (OpenSpec.ofChange fnExactMovedSpec)

/-- ITS FALSE NEIGHBOUR: 'it returns false'. Refute it at one input. -/
def fnExactMovedWrong : ChangeSpec := { name := "fnExactMoved", fn := fun _ => fun
  | [d1, d2] => { results := [.lit (.bool false)], args := [d1, d2] }
  | _ => none }
def FnExactMovedWrongFalsely : Prop := fnExactMovedRow.holds Try.pinned (OpenSpec.ofChange fnExactMovedWrong)

/-- 'laws.FnExactBehind': WHATEVER THE INPUT: true; the input reads as it did. -/
def fnExactBehindSpec : ChangeSpec := { name := "fnExactBehind", fn := fun _ => fun
  | [d1, d2] => { results := [.lit (.bool true)], args := [d1, d2] }
  | _ => none }
def fnExactBehindRow : OpenClaim := { program := "ytfbokdbaondjdaa", sum := "47f29f221fde5eb54d44b9395e66cecb625a794cc2b703c4831448d2c1c2ef2f", func := "loop.example/g00059/laws.FnExactBehind", spec := "fnExactBehind", apart := false }
def FnExactBehindSaid : Prop := fnExactBehindRow.holds Try.pinned (OpenSpec.ofChange fnExactBehindSpec)

/-- ITS FALSE NEIGHBOUR: 'it returns false'. Refute it at one input. -/
def fnExactBehindWrong : ChangeSpec := { name := "fnExactBehind", fn := fun _ => fun
  | [d1, d2] => { results := [.lit (.bool false)], args := [d1, d2] }
  | _ => none }
def FnExactBehindWrongFalsely : Prop := fnExactBehindRow.holds Try.pinned (OpenSpec.ofChange fnExactBehindWrong)

/-- 'laws.FnExactHeadOn': WHATEVER THE INPUT: true; the input reads as it did. -/
def fnExactHeadOnSpec : ChangeSpec := { name := "fnExactHeadOn", fn := fun _ => fun
  | [d1, d2] => { results := [.lit (.bool true)], args := [d1, d2] }
  | _ => none }
def fnExactHeadOnRow : OpenClaim := { program := "ytfbokdbaondjdaa", sum := "47f29f221fde5eb54d44b9395e66cecb625a794cc2b703c4831448d2c1c2ef2f", func := "loop.example/g00059/laws.FnExactHeadOn", spec := "fnExactHeadOn", apart := false }
def FnExactHeadOnSaid : Prop := fnExactHeadOnRow.holds Try.pinned (OpenSpec.ofChange fnExactHeadOnSpec)

/-- ITS FALSE NEIGHBOUR: 'it returns false'. Refute it at one input. -/
def fnExactHeadOnWrong : ChangeSpec := { name := "fnExactHeadOn", fn := fun _ => fun
  | [d1, d2] => { results := [.lit (.bool false)], args := [d1, d2] }
  | _ => none }
def FnExactHeadOnWrongFalsely : Prop := fnExactHeadOnRow.holds Try.pinned (OpenSpec.ofChange fnExactHeadOnWrong)

/-- 'laws.FnExactWindowFor': WHATEVER THE INPUT: true; the input reads as it did. -/
def fnExactWindowForSpec : ChangeSpec := { name := "fnExactWindowFor", fn := fun _ => fun
  | [d1, d2, d3] => { results := [.lit (.bool true)], args := [d1, d2, d3] }
  | _ => none }
def fnExactWindowForRow : OpenClaim := { program := "ytfbokdbaondjdaa", sum := "47f29f221fde5eb54d44b9395e66cecb625a794cc2b703c4831448d2c1c2ef2f", func := "loop.example/g00059/laws.FnExactWindowFor", spec := "fnExactWindowFor", apart := false }
def FnExactWindowForSaid : Prop := fnExactWindowForRow.holds Try.pinned (OpenSpec.ofChange fnExactWindowForSpec)

/-- ITS FALSE NEIGHBOUR: 'it returns false'. Refute it at one input. -/
def fnExactWindowForWrong : ChangeSpec := { name := "fnExactWindowFor", fn := fun _ => fun
  | [d1, d2, d3] => { results := [.lit (.bool false)], args := [d1, d2, d3] }
  | _ => none }
def FnExactWindowForWrongFalsely : Prop := fnExactWindowForRow.holds Try.pinned (OpenSpec.ofChange fnExactWindowForWrong)

/-- 'laws.FnExactClosest': WHATEVER THE INPUT: true; the input reads as it did. -/
def fnExactClosestSpec : ChangeSpec := { name := "fnExactClosest", fn := fun _ => fun
  | [d1, d2] => { results := [.lit (.bool true)], args := [d1, d2] }
  | _ => none }
def fnExactClosestRow : OpenClaim := { program := "ytfbokdbaondjdaa", sum := "47f29f221fde5eb54d44b9395e66cecb625a794cc2b703c4831448d2c1c2ef2f", func := "loop.example/g00059/laws.FnExactClosest", spec := "fnExactClosest", apart := false }
def FnExactClosestSaid : Prop := fnExactClosestRow.holds Try.pinned (OpenSpec.ofChange fnExactClosestSpec)

/-- ITS FALSE NEIGHBOUR: 'it returns false'. Refute it at one input. -/
def fnExactClosestWrong : ChangeSpec := { name := "fnExactClosest", fn := fun _ => fun
  | [d1, d2] => { results := [.lit (.bool false)], args := [d1, d2] }
  | _ => none }
def FnExactClosestWrongFalsely : Prop := fnExactClosestRow.holds Try.pinned (OpenSpec.ofChange fnExactClosestWrong)

/-- 'laws.FnExactReadReport': WHATEVER THE INPUT: true; the input reads as it did. -/
def fnExactReadReportSpec : ChangeSpec := { name := "fnExactReadReport", fn := fun _ => fun
  | [d] => { results := [.lit (.bool true)], args := [d] }
  | _ => none }
def fnExactReadReportRow : OpenClaim := { program := "ytfbokdbaondjdaa", sum := "47f29f221fde5eb54d44b9395e66cecb625a794cc2b703c4831448d2c1c2ef2f", func := "loop.example/g00059/laws.FnExactReadReport", spec := "fnExactReadReport", apart := false }
def FnExactReadReportSaid : Prop := fnExactReadReportRow.holds Try.pinned (OpenSpec.ofChange fnExactReadReportSpec)

/-- ITS FALSE NEIGHBOUR: 'it returns false'. Refute it at one input. -/
def fnExactReadReportWrong : ChangeSpec := { name := "fnExactReadReport", fn := fun _ => fun
  | [d] => { results := [.lit (.bool false)], args := [d] }
  | _ => none }
def FnExactReadReportWrongFalsely : Prop := fnExactReadReportRow.holds Try.pinned (OpenSpec.ofChange fnExactReadReportWrong)

/-- 'laws.FnExactDuty': WHATEVER THE INPUT: true; the input reads as it did. -/
def fnExactDutySpec : ChangeSpec := { name := "fnExactDuty", fn := fun _ => fun
  | [d1, d2] => { results := [.lit (.bool true)], args := [d1, d2] }
  | _ => none }
def fnExactDutyRow : OpenClaim := { program := "ytfbokdbaondjdaa", sum := "47f29f221fde5eb54d44b9395e66cecb625a794cc2b703c4831448d2c1c2ef2f", func := "loop.example/g00059/laws.FnExactDuty", spec := "fnExactDuty", unfollowed := true, recurses := true, apart := false }
def FnExactDutySaid : Prop := fnExactDutyRow.holds Try.pinned (OpenSpec.ofChange fnExactDutySpec)

/-- ITS FALSE NEIGHBOUR: 'it returns false'. Refute it at one input. -/
def fnExactDutyWrong : ChangeSpec := { name := "fnExactDuty", fn := fun _ => fun
  | [d1, d2] => { results := [.lit (.bool false)], args := [d1, d2] }
  | _ => none }
def FnExactDutyWrongFalsely : Prop := fnExactDutyRow.holds Try.pinned (OpenSpec.ofChange fnExactDutyWrong)

/-- 'laws.FnClosest': WHATEVER THE INPUT: true; the input reads as it did. -/
def fnClosestSpec : ChangeSpec := { name := "fnClosest", fn := fun _ => fun
  | [d] => { results := [.lit (.bool true)], args := [d] }
  | _ => none }
def fnClosestRow : OpenClaim := { program := "ytfbokdbaondjdaa", sum := "47f29f221fde5eb54d44b9395e66cecb625a794cc2b703c4831448d2c1c2ef2f", func := "loop.example/g00059/laws.FnClosest", spec := "fnClosest", apart := false }
def FnClosestSaid : Prop := fnClosestRow.holds Try.pinned (OpenSpec.ofChange fnClosestSpec)

/-- ITS FALSE NEIGHBOUR: 'it returns false'. Refute it at one input. -/
def fnClosestWrong : ChangeSpec := { name := "fnClosest", fn := fun _ => fun
  | [d] => { results := [.lit (.bool false)], args := [d] }
  | _ => none }
def FnClosestWrongFalsely : Prop := fnClosestRow.holds Try.pinned (OpenSpec.ofChange fnClosestWrong)

/-- 'laws.FnExactDuties': WHATEVER THE INPUT: true; the input reads as it did. -/
def fnExactDutiesSpec : ChangeSpec := { name := "fnExactDuties", fn := fun _ => fun
  | [d] => { results := [.lit (.bool true)], args := [d] }
  | _ => none }
def fnExactDutiesRow : OpenClaim := { program := "ytfbokdbaondjdaa", sum := "47f29f221fde5eb54d44b9395e66cecb625a794cc2b703c4831448d2c1c2ef2f", func := "loop.example/g00059/laws.FnExactDuties", spec := "fnExactDuties", unfollowed := true, recurses := true, apart := false }
def FnExactDutiesSaid : Prop := fnExactDutiesRow.holds Try.pinned (OpenSpec.ofChange fnExactDutiesSpec)

/-- ITS FALSE NEIGHBOUR: 'it returns false'. Refute it at one input. -/
def fnExactDutiesWrong : ChangeSpec := { name := "fnExactDuties", fn := fun _ => fun
  | [d] => { results := [.lit (.bool false)], args := [d] }
  | _ => none }
def FnExactDutiesWrongFalsely : Prop := fnExactDutiesRow.holds Try.pinned (OpenSpec.ofChange fnExactDutiesWrong)

/- THE SECOND FORM. 'bulk': how many values and letters a reading holds, each counted each time it is reached (what is shared counts as often as it is met; a slice's spare places count too). A statement '..UptoSaid' is the law's where the arguments, and the package variables that the reading takes, are together of bulk at most 1048576: NARROWER than '..Said'. Prove '..Said' where nothing that the law and all that it calls make is longer than what came in: it says more and counts as full. Else prove '..UptoSaid'. A law counts once. -/
mutual
def uptoBulk {H : Type} : DataW H → Nat
  | .lit (.string bytes) => bytes.length + 1
  | .lit _ => 1
  | .nil => 1
  | .ptr d => uptoBulk d + 1
  | .slice elems spare => uptoBulkAll elems + uptoBulkAll spare + 1
  | .agg parts => uptoBulkAll parts + 1
  | .iface _ d => uptoBulk d + 1
  | .map entries => uptoBulkEntries entries + 1
  | .held _ => 1
def uptoBulkAll {H : Type} : List (DataW H) → Nat
  | [] => 0
  | d :: r => uptoBulk d + uptoBulkAll r
def uptoBulkEntries {H : Type} : List (Lit × DataW H) → Nat
  | [] => 0
  | x :: r => uptoBulkEntry x + uptoBulkEntries r
def uptoBulkEntry {H : Type} : Lit × DataW H → Nat
  | (.string bytes, d) => bytes.length + uptoBulk d + 1
  | (_, d) => uptoBulk d + 1
 end
def uptoSmall : (H : Type) → List (DataW H) → Bool := fun _ ds => decide (uptoBulkAll ds ≤ 1048576)
def OpenSpec.upto (s : _root_.Go.ChangeSpec) : _root_.Go.OpenSpec := { _root_.Go.OpenSpec.ofChange s with cond := some uptoSmall }

/-- 'laws.FnExactShipOk', WHERE WHAT IT READS IS OF BULK AT MOST 1048576: true; the input reads as it did. -/
def fnExactShipOkUptoRow : OpenClaim := { program := "ytfbokdbaondjdaa", sum := "47f29f221fde5eb54d44b9395e66cecb625a794cc2b703c4831448d2c1c2ef2f", func := "loop.example/g00059/laws.FnExactShipOk", spec := "fnExactShipOk", apart := false, narrowed := true }
def FnExactShipOkUptoSaid : Prop := fnExactShipOkUptoRow.holds Try.pinned (OpenSpec.upto fnExactShipOkSpec)

/-- 'laws.FnExactReportOk', WHERE WHAT IT READS IS OF BULK AT MOST 1048576: true; the input reads as it did. -/
def fnExactReportOkUptoRow : OpenClaim := { program := "ytfbokdbaondjdaa", sum := "47f29f221fde5eb54d44b9395e66cecb625a794cc2b703c4831448d2c1c2ef2f", func := "loop.example/g00059/laws.FnExactReportOk", spec := "fnExactReportOk", apart := false, narrowed := true }
def FnExactReportOkUptoSaid : Prop := fnExactReportOkUptoRow.holds Try.pinned (OpenSpec.upto fnExactReportOkSpec)

/-- 'laws.FnDuties', WHERE WHAT IT READS IS OF BULK AT MOST 1048576: true; the input reads as it did. -/
def fnDutiesUptoRow : OpenClaim := { program := "ytfbokdbaondjdaa", sum := "47f29f221fde5eb54d44b9395e66cecb625a794cc2b703c4831448d2c1c2ef2f", func := "loop.example/g00059/laws.FnDuties", spec := "fnDuties", unfollowed := true, recurses := true, apart := false, narrowed := true }
def FnDutiesUptoSaid : Prop := fnDutiesUptoRow.holds Try.pinned (OpenSpec.upto fnDutiesSpec)

/-- 'laws.FnExactMoved', WHERE WHAT IT READS IS OF BULK AT MOST 1048576: true; the input reads as it did. -/
def fnExactMovedUptoRow : OpenClaim := { program := "ytfbokdbaondjdaa", sum := "47f29f221fde5eb54d44b9395e66cecb625a794cc2b703c4831448d2c1c2ef2f", func := "loop.example/g00059/laws.FnExactMoved", spec := "fnExactMoved", apart := false, narrowed := true }
def FnExactMovedUptoSaid : Prop := fnExactMovedUptoRow.holds Try.pinned (OpenSpec.upto fnExactMovedSpec)

/-- 'laws.FnExactBehind', WHERE WHAT IT READS IS OF BULK AT MOST 1048576: true; the input reads as it did. -/
def fnExactBehindUptoRow : OpenClaim := { program := "ytfbokdbaondjdaa", sum := "47f29f221fde5eb54d44b9395e66cecb625a794cc2b703c4831448d2c1c2ef2f", func := "loop.example/g00059/laws.FnExactBehind", spec := "fnExactBehind", apart := false, narrowed := true }
def FnExactBehindUptoSaid : Prop := fnExactBehindUptoRow.holds Try.pinned (OpenSpec.upto fnExactBehindSpec)

/-- 'laws.FnExactHeadOn', WHERE WHAT IT READS IS OF BULK AT MOST 1048576: true; the input reads as it did. -/
def fnExactHeadOnUptoRow : OpenClaim := { program := "ytfbokdbaondjdaa", sum := "47f29f221fde5eb54d44b9395e66cecb625a794cc2b703c4831448d2c1c2ef2f", func := "loop.example/g00059/laws.FnExactHeadOn", spec := "fnExactHeadOn", apart := false, narrowed := true }
def FnExactHeadOnUptoSaid : Prop := fnExactHeadOnUptoRow.holds Try.pinned (OpenSpec.upto fnExactHeadOnSpec)

/-- 'laws.FnExactWindowFor', WHERE WHAT IT READS IS OF BULK AT MOST 1048576: true; the input reads as it did. -/
def fnExactWindowForUptoRow : OpenClaim := { program := "ytfbokdbaondjdaa", sum := "47f29f221fde5eb54d44b9395e66cecb625a794cc2b703c4831448d2c1c2ef2f", func := "loop.example/g00059/laws.FnExactWindowFor", spec := "fnExactWindowFor", apart := false, narrowed := true }
def FnExactWindowForUptoSaid : Prop := fnExactWindowForUptoRow.holds Try.pinned (OpenSpec.upto fnExactWindowForSpec)

/-- 'laws.FnExactClosest', WHERE WHAT IT READS IS OF BULK AT MOST 1048576: true; the input reads as it did. -/
def fnExactClosestUptoRow : OpenClaim := { program := "ytfbokdbaondjdaa", sum := "47f29f221fde5eb54d44b9395e66cecb625a794cc2b703c4831448d2c1c2ef2f", func := "loop.example/g00059/laws.FnExactClosest", spec := "fnExactClosest", apart := false, narrowed := true }
def FnExactClosestUptoSaid : Prop := fnExactClosestUptoRow.holds Try.pinned (OpenSpec.upto fnExactClosestSpec)

/-- 'laws.FnExactReadReport', WHERE WHAT IT READS IS OF BULK AT MOST 1048576: true; the input reads as it did. -/
def fnExactReadReportUptoRow : OpenClaim := { program := "ytfbokdbaondjdaa", sum := "47f29f221fde5eb54d44b9395e66cecb625a794cc2b703c4831448d2c1c2ef2f", func := "loop.example/g00059/laws.FnExactReadReport", spec := "fnExactReadReport", apart := false, narrowed := true }
def FnExactReadReportUptoSaid : Prop := fnExactReadReportUptoRow.holds Try.pinned (OpenSpec.upto fnExactReadReportSpec)

/-- 'laws.FnExactDuty', WHERE WHAT IT READS IS OF BULK AT MOST 1048576: true; the input reads as it did. -/
def fnExactDutyUptoRow : OpenClaim := { program := "ytfbokdbaondjdaa", sum := "47f29f221fde5eb54d44b9395e66cecb625a794cc2b703c4831448d2c1c2ef2f", func := "loop.example/g00059/laws.FnExactDuty", spec := "fnExactDuty", unfollowed := true, recurses := true, apart := false, narrowed := true }
def FnExactDutyUptoSaid : Prop := fnExactDutyUptoRow.holds Try.pinned (OpenSpec.upto fnExactDutySpec)

/-- 'laws.FnClosest', WHERE WHAT IT READS IS OF BULK AT MOST 1048576: true; the input reads as it did. -/
def fnClosestUptoRow : OpenClaim := { program := "ytfbokdbaondjdaa", sum := "47f29f221fde5eb54d44b9395e66cecb625a794cc2b703c4831448d2c1c2ef2f", func := "loop.example/g00059/laws.FnClosest", spec := "fnClosest", apart := false, narrowed := true }
def FnClosestUptoSaid : Prop := fnClosestUptoRow.holds Try.pinned (OpenSpec.upto fnClosestSpec)

/-- 'laws.FnExactDuties', WHERE WHAT IT READS IS OF BULK AT MOST 1048576: true; the input reads as it did. -/
def fnExactDutiesUptoRow : OpenClaim := { program := "ytfbokdbaondjdaa", sum := "47f29f221fde5eb54d44b9395e66cecb625a794cc2b703c4831448d2c1c2ef2f", func := "loop.example/g00059/laws.FnExactDuties", spec := "fnExactDuties", unfollowed := true, recurses := true, apart := false, narrowed := true }
def FnExactDutiesUptoSaid : Prop := fnExactDutiesUptoRow.holds Try.pinned (OpenSpec.upto fnExactDutiesSpec)

end Rows
end Go.Proofs.Ytfbokdbaondjdaa
