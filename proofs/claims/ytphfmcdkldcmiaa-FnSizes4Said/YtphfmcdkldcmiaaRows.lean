/-
  No cell of these rows narrows 'for every input' (looked for: loops, veiled, ifaces, maps, wideKeys, modest, calm, conditions, laid).
  DERIVED. THE GIVEN ROWS OF THIS SEAT. 10 by the template 'for every input the law returns true; each argument reads behind the call as it read before'; 0 by the template 'total and deterministic' (their statements: YtphfmcdkldcmiaaTotals.lean).
  GIVEN WITH THE SEED: the statements are not yours to turn. If you find one false, say at which input.
  Laid BY PROGRAM, IN A SANDBOX (cutbox-rows.mjs): the forced cells as the released guide's own fill.sh prints them over the translation 38addb7bc2b589cd… (all of the seat's roots in one cut). By AI agents, Wed Nov 11 2026. No macro, syntax, notation, axiom, sorry.
-/
import Derived.Test.YtphfmcdkldcmiaaChecked
import GoSem.Claim
import GoSem.ClaimJoined
import GoSem.ClaimMapViews
import Derived.JoinedTies
import Derived.KernelRfl
namespace Go.Proofs.Ytphfmcdkldcmiaa
/- THE CELL 'sum', in the pinned program and in every row, IS THE sha256 OF THE DUMP (.gsa) THAT YtphfmcdkldcmiaaProg.lean LOADS. Nothing in Lean hashes anything: it is a label: what it is worth is what the hold of that sum in a sandbox is worth. -/
noncomputable def Try.pinned : Pinned := { name := "ytphfmcdkldcmiaa", sum := "38addb7bc2b589cd6c8726484d1b4144f6a48d159f88e117f56bff3685e43abe", checked := Try.checked }
namespace Rows
def none {H : Type} : Left H := { results := [], args := [] }

/-- 'laws.FnExactStrip': WHATEVER THE INPUT: true; the input reads as it did. -/
def fnExactStripSpec : ChangeSpec := { name := "fnExactStrip", fn := fun _ => fun
  | [d1, d2] => { results := [.lit (.bool true)], args := [d1, d2] }
  | _ => none }
def fnExactStripRow : OpenClaim := { program := "ytphfmcdkldcmiaa", sum := "38addb7bc2b589cd6c8726484d1b4144f6a48d159f88e117f56bff3685e43abe", func := "loop.example/g00059/laws.FnExactStrip", spec := "fnExactStrip", apart := false }
def FnExactStripSaid : Prop := fnExactStripRow.holds Try.pinned (OpenSpec.ofChange fnExactStripSpec)

/-- ITS FALSE NEIGHBOUR: 'it returns false'. Refute it at one input. -/
def fnExactStripWrong : ChangeSpec := { name := "fnExactStrip", fn := fun _ => fun
  | [d1, d2] => { results := [.lit (.bool false)], args := [d1, d2] }
  | _ => none }
def FnExactStripWrongFalsely : Prop := fnExactStripRow.holds Try.pinned (OpenSpec.ofChange fnExactStripWrong)

/-- 'laws.FnExactSummed': WHATEVER THE INPUT: true; the input reads as it did. -/
def fnExactSummedSpec : ChangeSpec := { name := "fnExactSummed", fn := fun _ => fun
  | [d] => { results := [.lit (.bool true)], args := [d] }
  | _ => none }
def fnExactSummedRow : OpenClaim := { program := "ytphfmcdkldcmiaa", sum := "38addb7bc2b589cd6c8726484d1b4144f6a48d159f88e117f56bff3685e43abe", func := "loop.example/g00059/laws.FnExactSummed", spec := "fnExactSummed", apart := false }
def FnExactSummedSaid : Prop := fnExactSummedRow.holds Try.pinned (OpenSpec.ofChange fnExactSummedSpec)

/-- ITS FALSE NEIGHBOUR: 'it returns false'. Refute it at one input. -/
def fnExactSummedWrong : ChangeSpec := { name := "fnExactSummed", fn := fun _ => fun
  | [d] => { results := [.lit (.bool false)], args := [d] }
  | _ => none }
def FnExactSummedWrongFalsely : Prop := fnExactSummedRow.holds Try.pinned (OpenSpec.ofChange fnExactSummedWrong)

/-- 'laws.FnExactEnergy': WHATEVER THE INPUT: true; the input reads as it did. -/
def fnExactEnergySpec : ChangeSpec := { name := "fnExactEnergy", fn := fun _ => fun
  | [d1, d2, d3] => { results := [.lit (.bool true)], args := [d1, d2, d3] }
  | _ => none }
def fnExactEnergyRow : OpenClaim := { program := "ytphfmcdkldcmiaa", sum := "38addb7bc2b589cd6c8726484d1b4144f6a48d159f88e117f56bff3685e43abe", func := "loop.example/g00059/laws.FnExactEnergy", spec := "fnExactEnergy", apart := false }
def FnExactEnergySaid : Prop := fnExactEnergyRow.holds Try.pinned (OpenSpec.ofChange fnExactEnergySpec)

/-- ITS FALSE NEIGHBOUR: 'it returns false'. Refute it at one input. -/
def fnExactEnergyWrong : ChangeSpec := { name := "fnExactEnergy", fn := fun _ => fun
  | [d1, d2, d3] => { results := [.lit (.bool false)], args := [d1, d2, d3] }
  | _ => none }
def FnExactEnergyWrongFalsely : Prop := fnExactEnergyRow.holds Try.pinned (OpenSpec.ofChange fnExactEnergyWrong)

/-- 'laws.FnExactDepths': WHATEVER THE INPUT: true; the input reads as it did. -/
def fnExactDepthsSpec : ChangeSpec := { name := "fnExactDepths", fn := fun _ => fun
  | [d1, d2] => { results := [.lit (.bool true)], args := [d1, d2] }
  | _ => none }
def fnExactDepthsRow : OpenClaim := { program := "ytphfmcdkldcmiaa", sum := "38addb7bc2b589cd6c8726484d1b4144f6a48d159f88e117f56bff3685e43abe", func := "loop.example/g00059/laws.FnExactDepths", spec := "fnExactDepths", apart := false }
def FnExactDepthsSaid : Prop := fnExactDepthsRow.holds Try.pinned (OpenSpec.ofChange fnExactDepthsSpec)

/-- ITS FALSE NEIGHBOUR: 'it returns false'. Refute it at one input. -/
def fnExactDepthsWrong : ChangeSpec := { name := "fnExactDepths", fn := fun _ => fun
  | [d1, d2] => { results := [.lit (.bool false)], args := [d1, d2] }
  | _ => none }
def FnExactDepthsWrongFalsely : Prop := fnExactDepthsRow.holds Try.pinned (OpenSpec.ofChange fnExactDepthsWrong)

/-- 'laws.FnExactSquat': WHATEVER THE INPUT: true; the input reads as it did. -/
def fnExactSquatSpec : ChangeSpec := { name := "fnExactSquat", fn := fun _ => fun
  | [d1, d2, d3, d4] => { results := [.lit (.bool true)], args := [d1, d2, d3, d4] }
  | _ => none }
def fnExactSquatRow : OpenClaim := { program := "ytphfmcdkldcmiaa", sum := "38addb7bc2b589cd6c8726484d1b4144f6a48d159f88e117f56bff3685e43abe", func := "loop.example/g00059/laws.FnExactSquat", spec := "fnExactSquat", inPlace := ["math.Float64bits", "math.Float64frombits"], apart := false }
def FnExactSquatSaid : Prop := fnExactSquatRow.holds Try.pinned (OpenSpec.ofChange fnExactSquatSpec)

/-- ITS FALSE NEIGHBOUR: 'it returns false'. Refute it at one input. -/
def fnExactSquatWrong : ChangeSpec := { name := "fnExactSquat", fn := fun _ => fun
  | [d1, d2, d3, d4] => { results := [.lit (.bool false)], args := [d1, d2, d3, d4] }
  | _ => none }
def FnExactSquatWrongFalsely : Prop := fnExactSquatRow.holds Try.pinned (OpenSpec.ofChange fnExactSquatWrong)

/-- 'laws.FnExactUnderKeel': WHATEVER THE INPUT: true; the input reads as it did. -/
def fnExactUnderKeelSpec : ChangeSpec := { name := "fnExactUnderKeel", fn := fun _ => fun
  | [d1, d2, d3, d4] => { results := [.lit (.bool true)], args := [d1, d2, d3, d4] }
  | _ => none }
def fnExactUnderKeelRow : OpenClaim := { program := "ytphfmcdkldcmiaa", sum := "38addb7bc2b589cd6c8726484d1b4144f6a48d159f88e117f56bff3685e43abe", func := "loop.example/g00059/laws.FnExactUnderKeel", spec := "fnExactUnderKeel", apart := false }
def FnExactUnderKeelSaid : Prop := fnExactUnderKeelRow.holds Try.pinned (OpenSpec.ofChange fnExactUnderKeelSpec)

/-- ITS FALSE NEIGHBOUR: 'it returns false'. Refute it at one input. -/
def fnExactUnderKeelWrong : ChangeSpec := { name := "fnExactUnderKeel", fn := fun _ => fun
  | [d1, d2, d3, d4] => { results := [.lit (.bool false)], args := [d1, d2, d3, d4] }
  | _ => none }
def FnExactUnderKeelWrongFalsely : Prop := fnExactUnderKeelRow.holds Try.pinned (OpenSpec.ofChange fnExactUnderKeelWrong)

/-- 'laws.FnExactOver': WHATEVER THE INPUT: true; the input reads as it did. -/
def fnExactOverSpec : ChangeSpec := { name := "fnExactOver", fn := fun _ => fun
  | [d1, d2] => { results := [.lit (.bool true)], args := [d1, d2] }
  | _ => none }
def fnExactOverRow : OpenClaim := { program := "ytphfmcdkldcmiaa", sum := "38addb7bc2b589cd6c8726484d1b4144f6a48d159f88e117f56bff3685e43abe", func := "loop.example/g00059/laws.FnExactOver", spec := "fnExactOver", inPlace := ["math.Float64bits", "math.Float64frombits"], apart := false }
def FnExactOverSaid : Prop := fnExactOverRow.holds Try.pinned (OpenSpec.ofChange fnExactOverSpec)

/-- ITS FALSE NEIGHBOUR: 'it returns false'. Refute it at one input. -/
def fnExactOverWrong : ChangeSpec := { name := "fnExactOver", fn := fun _ => fun
  | [d1, d2] => { results := [.lit (.bool false)], args := [d1, d2] }
  | _ => none }
def FnExactOverWrongFalsely : Prop := fnExactOverRow.holds Try.pinned (OpenSpec.ofChange fnExactOverWrong)

/-- 'laws.FnExactReply': WHATEVER THE INPUT: true; the input reads as it did. -/
def fnExactReplySpec : ChangeSpec := { name := "fnExactReply", fn := fun _ => fun
  | [d1, d2] => { results := [.lit (.bool true)], args := [d1, d2] }
  | _ => none }
def fnExactReplyRow : OpenClaim := { program := "ytphfmcdkldcmiaa", sum := "38addb7bc2b589cd6c8726484d1b4144f6a48d159f88e117f56bff3685e43abe", func := "loop.example/g00059/laws.FnExactReply", spec := "fnExactReply", inPlace := ["math.Float64bits", "math.Float64frombits"], apart := false }
def FnExactReplySaid : Prop := fnExactReplyRow.holds Try.pinned (OpenSpec.ofChange fnExactReplySpec)

/-- ITS FALSE NEIGHBOUR: 'it returns false'. Refute it at one input. -/
def fnExactReplyWrong : ChangeSpec := { name := "fnExactReply", fn := fun _ => fun
  | [d1, d2] => { results := [.lit (.bool false)], args := [d1, d2] }
  | _ => none }
def FnExactReplyWrongFalsely : Prop := fnExactReplyRow.holds Try.pinned (OpenSpec.ofChange fnExactReplyWrong)

/-- 'laws.FnSizes4': WHATEVER THE INPUT: true; the input reads as it did. -/
def fnSizes4Spec : ChangeSpec := { name := "fnSizes4", fn := fun _ => fun
  | [d] => { results := [.lit (.bool true)], args := [d] }
  | _ => none }
def fnSizes4Row : OpenClaim := { program := "ytphfmcdkldcmiaa", sum := "38addb7bc2b589cd6c8726484d1b4144f6a48d159f88e117f56bff3685e43abe", func := "loop.example/g00059/laws.FnSizes4", spec := "fnSizes4", apart := false }
def FnSizes4Said : Prop := fnSizes4Row.holds Try.pinned (OpenSpec.ofChange fnSizes4Spec)

/-- ITS FALSE NEIGHBOUR: 'it returns false'. Refute it at one input. -/
def fnSizes4Wrong : ChangeSpec := { name := "fnSizes4", fn := fun _ => fun
  | [d] => { results := [.lit (.bool false)], args := [d] }
  | _ => none }
def FnSizes4WrongFalsely : Prop := fnSizes4Row.holds Try.pinned (OpenSpec.ofChange fnSizes4Wrong)

/-- 'laws.FnExactTideDay': WHATEVER THE INPUT: true; the input reads as it did. -/
def fnExactTideDaySpec : ChangeSpec := { name := "fnExactTideDay", fn := fun _ => fun
  | [d1, d2, d3] => { results := [.lit (.bool true)], args := [d1, d2, d3] }
  | _ => none }
def fnExactTideDayRow : OpenClaim := { program := "ytphfmcdkldcmiaa", sum := "38addb7bc2b589cd6c8726484d1b4144f6a48d159f88e117f56bff3685e43abe", func := "loop.example/g00059/laws.FnExactTideDay", spec := "fnExactTideDay", apart := false }
def FnExactTideDaySaid : Prop := fnExactTideDayRow.holds Try.pinned (OpenSpec.ofChange fnExactTideDaySpec)

/-- ITS FALSE NEIGHBOUR: 'it returns false'. Refute it at one input. -/
def fnExactTideDayWrong : ChangeSpec := { name := "fnExactTideDay", fn := fun _ => fun
  | [d1, d2, d3] => { results := [.lit (.bool false)], args := [d1, d2, d3] }
  | _ => none }
def FnExactTideDayWrongFalsely : Prop := fnExactTideDayRow.holds Try.pinned (OpenSpec.ofChange fnExactTideDayWrong)

/- THE SECOND FORM. 'bulk': how many values and letters a reading holds, each counted each time it is reached (what is shared counts as often as it is met; a slice's spare places count too). A statement '..UptoSaid' is the law's where the arguments, and the package variables that the reading takes, are together of bulk at most 1048576: NARROWER than '..Said'. Prove '..Said' where nothing that the law and all that it calls make is longer than what came in: it says more and counts as full. Else prove '..UptoSaid'. A law counts once. -/
mutual
def uptoBulk {H : Type} : DataW H → Nat
  | .lit (.string bytes) => bytes.length + 1
  | .lit _ => 1
  | .nil => 1
  | .ptr d => uptoBulk d + 1
  | .slice elems spare => uptoBulkAll elems + uptoBulkAll spare + 1
  | .agg parts => uptoBulkAll parts + 1
  | .iface _ d => uptoBulk d + 1
  | .map entries => uptoBulkEntries entries + 1
  | .held _ => 1
def uptoBulkAll {H : Type} : List (DataW H) → Nat
  | [] => 0
  | d :: r => uptoBulk d + uptoBulkAll r
def uptoBulkEntries {H : Type} : List (Lit × DataW H) → Nat
  | [] => 0
  | x :: r => uptoBulkEntry x + uptoBulkEntries r
def uptoBulkEntry {H : Type} : Lit × DataW H → Nat
  | (.string bytes, d) => bytes.length + uptoBulk d + 1
  | (_, d) => uptoBulk d + 1
 end
def uptoSmall : (H : Type) → List (DataW H) → Bool := fun _ ds => decide (uptoBulkAll ds ≤ 1048576)
def OpenSpec.upto (s : _root_.Go.ChangeSpec) : _root_.Go.OpenSpec := { _root_.Go.OpenSpec.ofChange s with cond := some uptoSmall }

/-- 'laws.FnExactStrip', WHERE WHAT IT READS IS OF BULK AT MOST 1048576: true; the input reads as it did. -/
def fnExactStripUptoRow : OpenClaim := { program := "ytphfmcdkldcmiaa", sum := "38addb7bc2b589cd6c8726484d1b4144f6a48d159f88e117f56bff3685e43abe", func := "loop.example/g00059/laws.FnExactStrip", spec := "fnExactStrip", apart := false, narrowed := true }
def FnExactStripUptoSaid : Prop := fnExactStripUptoRow.holds Try.pinned (OpenSpec.upto fnExactStripSpec)

/-- 'laws.FnExactSummed', WHERE WHAT IT READS IS OF BULK AT MOST 1048576: true; the input reads as it did. -/
def fnExactSummedUptoRow : OpenClaim := { program := "ytphfmcdkldcmiaa", sum := "38addb7bc2b589cd6c8726484d1b4144f6a48d159f88e117f56bff3685e43abe", func := "loop.example/g00059/laws.FnExactSummed", spec := "fnExactSummed", apart := false, narrowed := true }
def FnExactSummedUptoSaid : Prop := fnExactSummedUptoRow.holds Try.pinned (OpenSpec.upto fnExactSummedSpec)

/-- 'laws.FnExactEnergy', WHERE WHAT IT READS IS OF BULK AT MOST 1048576: true; the input reads as it did. -/
def fnExactEnergyUptoRow : OpenClaim := { program := "ytphfmcdkldcmiaa", sum := "38addb7bc2b589cd6c8726484d1b4144f6a48d159f88e117f56bff3685e43abe", func := "loop.example/g00059/laws.FnExactEnergy", spec := "fnExactEnergy", apart := false, narrowed := true }
def FnExactEnergyUptoSaid : Prop := fnExactEnergyUptoRow.holds Try.pinned (OpenSpec.upto fnExactEnergySpec)

/-- 'laws.FnExactDepths', WHERE WHAT IT READS IS OF BULK AT MOST 1048576: true; the input reads as it did. -/
def fnExactDepthsUptoRow : OpenClaim := { program := "ytphfmcdkldcmiaa", sum := "38addb7bc2b589cd6c8726484d1b4144f6a48d159f88e117f56bff3685e43abe", func := "loop.example/g00059/laws.FnExactDepths", spec := "fnExactDepths", apart := false, narrowed := true }
def FnExactDepthsUptoSaid : Prop := fnExactDepthsUptoRow.holds Try.pinned (OpenSpec.upto fnExactDepthsSpec)

/-- 'laws.FnExactSquat', WHERE WHAT IT READS IS OF BULK AT MOST 1048576: true; the input reads as it did. -/
def fnExactSquatUptoRow : OpenClaim := { program := "ytphfmcdkldcmiaa", sum := "38addb7bc2b589cd6c8726484d1b4144f6a48d159f88e117f56bff3685e43abe", func := "loop.example/g00059/laws.FnExactSquat", spec := "fnExactSquat", inPlace := ["math.Float64bits", "math.Float64frombits"], apart := false, narrowed := true }
def FnExactSquatUptoSaid : Prop := fnExactSquatUptoRow.holds Try.pinned (OpenSpec.upto fnExactSquatSpec)

/-- 'laws.FnExactUnderKeel', WHERE WHAT IT READS IS OF BULK AT MOST 1048576: true; the input reads as it did. -/
def fnExactUnderKeelUptoRow : OpenClaim := { program := "ytphfmcdkldcmiaa", sum := "38addb7bc2b589cd6c8726484d1b4144f6a48d159f88e117f56bff3685e43abe", func := "loop.example/g00059/laws.FnExactUnderKeel", spec := "fnExactUnderKeel", apart := false, narrowed := true }
def FnExactUnderKeelUptoSaid : Prop := fnExactUnderKeelUptoRow.holds Try.pinned (OpenSpec.upto fnExactUnderKeelSpec)

/-- 'laws.FnExactOver', WHERE WHAT IT READS IS OF BULK AT MOST 1048576: true; the input reads as it did. -/
def fnExactOverUptoRow : OpenClaim := { program := "ytphfmcdkldcmiaa", sum := "38addb7bc2b589cd6c8726484d1b4144f6a48d159f88e117f56bff3685e43abe", func := "loop.example/g00059/laws.FnExactOver", spec := "fnExactOver", inPlace := ["math.Float64bits", "math.Float64frombits"], apart := false, narrowed := true }
def FnExactOverUptoSaid : Prop := fnExactOverUptoRow.holds Try.pinned (OpenSpec.upto fnExactOverSpec)

/-- 'laws.FnExactReply', WHERE WHAT IT READS IS OF BULK AT MOST 1048576: true; the input reads as it did. -/
def fnExactReplyUptoRow : OpenClaim := { program := "ytphfmcdkldcmiaa", sum := "38addb7bc2b589cd6c8726484d1b4144f6a48d159f88e117f56bff3685e43abe", func := "loop.example/g00059/laws.FnExactReply", spec := "fnExactReply", inPlace := ["math.Float64bits", "math.Float64frombits"], apart := false, narrowed := true }
def FnExactReplyUptoSaid : Prop := fnExactReplyUptoRow.holds Try.pinned (OpenSpec.upto fnExactReplySpec)

/-- 'laws.FnSizes4', WHERE WHAT IT READS IS OF BULK AT MOST 1048576: true; the input reads as it did. -/
def fnSizes4UptoRow : OpenClaim := { program := "ytphfmcdkldcmiaa", sum := "38addb7bc2b589cd6c8726484d1b4144f6a48d159f88e117f56bff3685e43abe", func := "loop.example/g00059/laws.FnSizes4", spec := "fnSizes4", apart := false, narrowed := true }
def FnSizes4UptoSaid : Prop := fnSizes4UptoRow.holds Try.pinned (OpenSpec.upto fnSizes4Spec)

/-- 'laws.FnExactTideDay', WHERE WHAT IT READS IS OF BULK AT MOST 1048576: true; the input reads as it did. -/
def fnExactTideDayUptoRow : OpenClaim := { program := "ytphfmcdkldcmiaa", sum := "38addb7bc2b589cd6c8726484d1b4144f6a48d159f88e117f56bff3685e43abe", func := "loop.example/g00059/laws.FnExactTideDay", spec := "fnExactTideDay", apart := false, narrowed := true }
def FnExactTideDayUptoSaid : Prop := fnExactTideDayUptoRow.holds Try.pinned (OpenSpec.upto fnExactTideDaySpec)

end Rows
end Go.Proofs.Ytphfmcdkldcmiaa
