/-
  No cell of these rows narrows 'for every input' (looked for: loops, veiled, ifaces, maps, wideKeys, modest, calm, conditions, laid).
  DERIVED. THE GIVEN ROWS OF THIS SEAT. 12 by the template 'for every input the law returns true; each argument reads behind the call as it read before'; 0 by the template 'total and deterministic' (their statements: YtfbgjjmnkkgioaaTotals.lean).
  GIVEN WITH THE SEED: the statements are not yours to turn. If you find one false, say at which input.
  Laid BY PROGRAM, IN A SANDBOX (cutbox-rows.mjs): the forced cells as the released guide's own fill.sh prints them over the translation e3c305568f4a4499… (all of the seat's roots in one cut). By AI agents, Wed Nov 11 2026. No macro, syntax, notation, axiom, sorry.
-/
import Derived.Test.YtfbgjjmnkkgioaaChecked
import GoSem.Claim
import GoSem.ClaimJoined
import GoSem.ClaimMapViews
import Derived.JoinedTies
import Derived.KernelRfl
namespace Go.Proofs.Ytfbgjjmnkkgioaa
/- THE CELL 'sum', in the pinned program and in every row, IS THE sha256 OF THE DUMP (.gsa) THAT YtfbgjjmnkkgioaaProg.lean LOADS. Nothing in Lean hashes anything: it is a label: what it is worth is what the hold of that sum in a sandbox is worth. -/
noncomputable def Try.pinned : Pinned := { name := "ytfbgjjmnkkgioaa", sum := "e3c305568f4a44990b9c5a65da7aeaaa16bdf64c780ab1ac686ce3f36551cfc6", checked := Try.checked }
namespace Rows
def none {H : Type} : Left H := { results := [], args := [] }

/-- 'laws.FnExactConstants': WHATEVER THE INPUT: true; the input reads as it did. -/
def fnExactConstantsSpec : ChangeSpec := { name := "fnExactConstants", fn := fun _ => fun
  | [] => { results := [.lit (.bool true)], args := [] }
  | _ => none }
def fnExactConstantsRow : OpenClaim := { program := "ytfbgjjmnkkgioaa", sum := "e3c305568f4a44990b9c5a65da7aeaaa16bdf64c780ab1ac686ce3f36551cfc6", func := "loop.example/g00059/laws.FnExactConstants", spec := "fnExactConstants", apart := false }
def FnExactConstantsSaid : Prop := fnExactConstantsRow.holds Try.pinned (OpenSpec.ofChange fnExactConstantsSpec)

/-- ITS FALSE NEIGHBOUR: 'it returns false'. Refute it at one input. -/
def fnExactConstantsWrong : ChangeSpec := { name := "fnExactConstants", fn := fun _ => fun
  | [] => { results := [.lit (.bool false)], args := [] }
  | _ => none }
def FnExactConstantsWrongFalsely : Prop := fnExactConstantsRow.holds Try.pinned (OpenSpec.ofChange fnExactConstantsWrong)

/-- 'laws.FnExactAlike': WHATEVER THE INPUT: true; the input reads as it did. -/
def fnExactAlikeSpec : ChangeSpec := { name := "fnExactAlike", fn := fun _ => fun
  | [d1, d2] => { results := [.lit (.bool true)], args := [d1, d2] }
  | _ => none }
def fnExactAlikeRow : OpenClaim := { program := "ytfbgjjmnkkgioaa", sum := "e3c305568f4a44990b9c5a65da7aeaaa16bdf64c780ab1ac686ce3f36551cfc6", func := "loop.example/g00059/laws.FnExactAlike", spec := "fnExactAlike", apart := false }
def FnExactAlikeSaid : Prop := fnExactAlikeRow.holds Try.pinned (OpenSpec.ofChange fnExactAlikeSpec)

/-- ITS FALSE NEIGHBOUR: 'it returns false'. Refute it at one input. -/
def fnExactAlikeWrong : ChangeSpec := { name := "fnExactAlike", fn := fun _ => fun
  | [d1, d2] => { results := [.lit (.bool false)], args := [d1, d2] }
  | _ => none }
def FnExactAlikeWrongFalsely : Prop := fnExactAlikeRow.holds Try.pinned (OpenSpec.ofChange fnExactAlikeWrong)

/-- 'laws.FnExactBarred': WHATEVER THE INPUT: true; the input reads as it did. -/
def fnExactBarredSpec : ChangeSpec := { name := "fnExactBarred", fn := fun _ => fun
  | [d] => { results := [.lit (.bool true)], args := [d] }
  | _ => none }
def fnExactBarredRow : OpenClaim := { program := "ytfbgjjmnkkgioaa", sum := "e3c305568f4a44990b9c5a65da7aeaaa16bdf64c780ab1ac686ce3f36551cfc6", func := "loop.example/g00059/laws.FnExactBarred", spec := "fnExactBarred", apart := false }
def FnExactBarredSaid : Prop := fnExactBarredRow.holds Try.pinned (OpenSpec.ofChange fnExactBarredSpec)

/-- ITS FALSE NEIGHBOUR: 'it returns false'. Refute it at one input. -/
def fnExactBarredWrong : ChangeSpec := { name := "fnExactBarred", fn := fun _ => fun
  | [d] => { results := [.lit (.bool false)], args := [d] }
  | _ => none }
def FnExactBarredWrongFalsely : Prop := fnExactBarredRow.holds Try.pinned (OpenSpec.ofChange fnExactBarredWrong)

/-- 'laws.FnExactAddSmall': WHATEVER THE INPUT: true; the input reads as it did. -/
def fnExactAddSmallSpec : ChangeSpec := { name := "fnExactAddSmall", fn := fun _ => fun
  | [d1, d2] => { results := [.lit (.bool true)], args := [d1, d2] }
  | _ => none }
def fnExactAddSmallRow : OpenClaim := { program := "ytfbgjjmnkkgioaa", sum := "e3c305568f4a44990b9c5a65da7aeaaa16bdf64c780ab1ac686ce3f36551cfc6", func := "loop.example/g00059/laws.FnExactAddSmall", spec := "fnExactAddSmall", apart := false }
def FnExactAddSmallSaid : Prop := fnExactAddSmallRow.holds Try.pinned (OpenSpec.ofChange fnExactAddSmallSpec)

/-- ITS FALSE NEIGHBOUR: 'it returns false'. Refute it at one input. -/
def fnExactAddSmallWrong : ChangeSpec := { name := "fnExactAddSmall", fn := fun _ => fun
  | [d1, d2] => { results := [.lit (.bool false)], args := [d1, d2] }
  | _ => none }
def FnExactAddSmallWrongFalsely : Prop := fnExactAddSmallRow.holds Try.pinned (OpenSpec.ofChange fnExactAddSmallWrong)

/-- 'laws.FnExactGreat': WHATEVER THE INPUT: true; the input reads as it did. -/
def fnExactGreatSpec : ChangeSpec := { name := "fnExactGreat", fn := fun _ => fun
  | [d] => { results := [.lit (.bool true)], args := [d] }
  | _ => none }
def fnExactGreatRow : OpenClaim := { program := "ytfbgjjmnkkgioaa", sum := "e3c305568f4a44990b9c5a65da7aeaaa16bdf64c780ab1ac686ce3f36551cfc6", func := "loop.example/g00059/laws.FnExactGreat", spec := "fnExactGreat", apart := false }
def FnExactGreatSaid : Prop := fnExactGreatRow.holds Try.pinned (OpenSpec.ofChange fnExactGreatSpec)

/-- ITS FALSE NEIGHBOUR: 'it returns false'. Refute it at one input. -/
def fnExactGreatWrong : ChangeSpec := { name := "fnExactGreat", fn := fun _ => fun
  | [d] => { results := [.lit (.bool false)], args := [d] }
  | _ => none }
def FnExactGreatWrongFalsely : Prop := fnExactGreatRow.holds Try.pinned (OpenSpec.ofChange fnExactGreatWrong)

/-- 'laws.FnExactLessSmall': WHATEVER THE INPUT: true; the input reads as it did. -/
def fnExactLessSmallSpec : ChangeSpec := { name := "fnExactLessSmall", fn := fun _ => fun
  | [d1, d2] => { results := [.lit (.bool true)], args := [d1, d2] }
  | _ => none }
def fnExactLessSmallRow : OpenClaim := { program := "ytfbgjjmnkkgioaa", sum := "e3c305568f4a44990b9c5a65da7aeaaa16bdf64c780ab1ac686ce3f36551cfc6", func := "loop.example/g00059/laws.FnExactLessSmall", spec := "fnExactLessSmall", apart := false }
def FnExactLessSmallSaid : Prop := fnExactLessSmallRow.holds Try.pinned (OpenSpec.ofChange fnExactLessSmallSpec)

/-- ITS FALSE NEIGHBOUR: 'it returns false'. Refute it at one input. -/
def fnExactLessSmallWrong : ChangeSpec := { name := "fnExactLessSmall", fn := fun _ => fun
  | [d1, d2] => { results := [.lit (.bool false)], args := [d1, d2] }
  | _ => none }
def FnExactLessSmallWrongFalsely : Prop := fnExactLessSmallRow.holds Try.pinned (OpenSpec.ofChange fnExactLessSmallWrong)

/-- 'laws.FnExactLittle': WHATEVER THE INPUT: true; the input reads as it did. -/
def fnExactLittleSpec : ChangeSpec := { name := "fnExactLittle", fn := fun _ => fun
  | [d] => { results := [.lit (.bool true)], args := [d] }
  | _ => none }
def fnExactLittleRow : OpenClaim := { program := "ytfbgjjmnkkgioaa", sum := "e3c305568f4a44990b9c5a65da7aeaaa16bdf64c780ab1ac686ce3f36551cfc6", func := "loop.example/g00059/laws.FnExactLittle", spec := "fnExactLittle", apart := false }
def FnExactLittleSaid : Prop := fnExactLittleRow.holds Try.pinned (OpenSpec.ofChange fnExactLittleSpec)

/-- ITS FALSE NEIGHBOUR: 'it returns false'. Refute it at one input. -/
def fnExactLittleWrong : ChangeSpec := { name := "fnExactLittle", fn := fun _ => fun
  | [d] => { results := [.lit (.bool false)], args := [d] }
  | _ => none }
def FnExactLittleWrongFalsely : Prop := fnExactLittleRow.holds Try.pinned (OpenSpec.ofChange fnExactLittleWrong)

/-- 'laws.FnExactTimes': WHATEVER THE INPUT: true; the input reads as it did. -/
def fnExactTimesSpec : ChangeSpec := { name := "fnExactTimes", fn := fun _ => fun
  | [d1, d2] => { results := [.lit (.bool true)], args := [d1, d2] }
  | _ => none }
def fnExactTimesRow : OpenClaim := { program := "ytfbgjjmnkkgioaa", sum := "e3c305568f4a44990b9c5a65da7aeaaa16bdf64c780ab1ac686ce3f36551cfc6", func := "loop.example/g00059/laws.FnExactTimes", spec := "fnExactTimes", apart := false }
def FnExactTimesSaid : Prop := fnExactTimesRow.holds Try.pinned (OpenSpec.ofChange fnExactTimesSpec)

/-- ITS FALSE NEIGHBOUR: 'it returns false'. Refute it at one input. -/
def fnExactTimesWrong : ChangeSpec := { name := "fnExactTimes", fn := fun _ => fun
  | [d1, d2] => { results := [.lit (.bool false)], args := [d1, d2] }
  | _ => none }
def FnExactTimesWrongFalsely : Prop := fnExactTimesRow.holds Try.pinned (OpenSpec.ofChange fnExactTimesWrong)

/-- 'laws.FnExactTimesSmall': WHATEVER THE INPUT: true; the input reads as it did. -/
def fnExactTimesSmallSpec : ChangeSpec := { name := "fnExactTimesSmall", fn := fun _ => fun
  | [d1, d2] => { results := [.lit (.bool true)], args := [d1, d2] }
  | _ => none }
def fnExactTimesSmallRow : OpenClaim := { program := "ytfbgjjmnkkgioaa", sum := "e3c305568f4a44990b9c5a65da7aeaaa16bdf64c780ab1ac686ce3f36551cfc6", func := "loop.example/g00059/laws.FnExactTimesSmall", spec := "fnExactTimesSmall", apart := false }
def FnExactTimesSmallSaid : Prop := fnExactTimesSmallRow.holds Try.pinned (OpenSpec.ofChange fnExactTimesSmallSpec)

/-- ITS FALSE NEIGHBOUR: 'it returns false'. Refute it at one input. -/
def fnExactTimesSmallWrong : ChangeSpec := { name := "fnExactTimesSmall", fn := fun _ => fun
  | [d1, d2] => { results := [.lit (.bool false)], args := [d1, d2] }
  | _ => none }
def FnExactTimesSmallWrongFalsely : Prop := fnExactTimesSmallRow.holds Try.pinned (OpenSpec.ofChange fnExactTimesSmallWrong)

/-- 'laws.FnExactStrip': WHATEVER THE INPUT: true; the input reads as it did. -/
def fnExactStripSpec : ChangeSpec := { name := "fnExactStrip", fn := fun _ => fun
  | [d1, d2] => { results := [.lit (.bool true)], args := [d1, d2] }
  | _ => none }
def fnExactStripRow : OpenClaim := { program := "ytfbgjjmnkkgioaa", sum := "e3c305568f4a44990b9c5a65da7aeaaa16bdf64c780ab1ac686ce3f36551cfc6", func := "loop.example/g00059/laws.FnExactStrip", spec := "fnExactStrip", apart := false }
def FnExactStripSaid : Prop := fnExactStripRow.holds Try.pinned (OpenSpec.ofChange fnExactStripSpec)

/-- ITS FALSE NEIGHBOUR: 'it returns false'. Refute it at one input. -/
def fnExactStripWrong : ChangeSpec := { name := "fnExactStrip", fn := fun _ => fun
  | [d1, d2] => { results := [.lit (.bool false)], args := [d1, d2] }
  | _ => none }
def FnExactStripWrongFalsely : Prop := fnExactStripRow.holds Try.pinned (OpenSpec.ofChange fnExactStripWrong)

/-- 'laws.FnExactSummed': WHATEVER THE INPUT: true; the input reads as it did. -/
def fnExactSummedSpec : ChangeSpec := { name := "fnExactSummed", fn := fun _ => fun
  | [d] => { results := [.lit (.bool true)], args := [d] }
  | _ => none }
def fnExactSummedRow : OpenClaim := { program := "ytfbgjjmnkkgioaa", sum := "e3c305568f4a44990b9c5a65da7aeaaa16bdf64c780ab1ac686ce3f36551cfc6", func := "loop.example/g00059/laws.FnExactSummed", spec := "fnExactSummed", apart := false }
def FnExactSummedSaid : Prop := fnExactSummedRow.holds Try.pinned (OpenSpec.ofChange fnExactSummedSpec)

/-- ITS FALSE NEIGHBOUR: 'it returns false'. Refute it at one input. -/
def fnExactSummedWrong : ChangeSpec := { name := "fnExactSummed", fn := fun _ => fun
  | [d] => { results := [.lit (.bool false)], args := [d] }
  | _ => none }
def FnExactSummedWrongFalsely : Prop := fnExactSummedRow.holds Try.pinned (OpenSpec.ofChange fnExactSummedWrong)

/-- 'laws.FnExactEnergy': WHATEVER THE INPUT: true; the input reads as it did. -/
def fnExactEnergySpec : ChangeSpec := { name := "fnExactEnergy", fn := fun _ => fun
  | [d1, d2, d3] => { results := [.lit (.bool true)], args := [d1, d2, d3] }
  | _ => none }
def fnExactEnergyRow : OpenClaim := { program := "ytfbgjjmnkkgioaa", sum := "e3c305568f4a44990b9c5a65da7aeaaa16bdf64c780ab1ac686ce3f36551cfc6", func := "loop.example/g00059/laws.FnExactEnergy", spec := "fnExactEnergy", apart := false }
def FnExactEnergySaid : Prop := fnExactEnergyRow.holds Try.pinned (OpenSpec.ofChange fnExactEnergySpec)

/-- ITS FALSE NEIGHBOUR: 'it returns false'. Refute it at one input. -/
def fnExactEnergyWrong : ChangeSpec := { name := "fnExactEnergy", fn := fun _ => fun
  | [d1, d2, d3] => { results := [.lit (.bool false)], args := [d1, d2, d3] }
  | _ => none }
def FnExactEnergyWrongFalsely : Prop := fnExactEnergyRow.holds Try.pinned (OpenSpec.ofChange fnExactEnergyWrong)

/- THE SECOND FORM. 'bulk': how many values and letters a reading holds, each counted each time it is reached (what is shared counts as often as it is met; a slice's spare places count too). A statement '..UptoSaid' is the law's where the arguments, and the package variables that the reading takes, are together of bulk at most 1048576: NARROWER than '..Said'. Prove '..Said' where nothing that the law and all that it calls make is longer than what came in: it says more and counts as full. Else prove '..UptoSaid'. A law counts once. -/
mutual
def uptoBulk {H : Type} : DataW H → Nat
  | .lit (.string bytes) => bytes.length + 1
  | .lit _ => 1
  | .nil => 1
  | .ptr d => uptoBulk d + 1
  | .slice elems spare => uptoBulkAll elems + uptoBulkAll spare + 1
  | .agg parts => uptoBulkAll parts + 1
  | .iface _ d => uptoBulk d + 1
  | .map entries => uptoBulkEntries entries + 1
  | .held _ => 1
def uptoBulkAll {H : Type} : List (DataW H) → Nat
  | [] => 0
  | d :: r => uptoBulk d + uptoBulkAll r
def uptoBulkEntries {H : Type} : List (Lit × DataW H) → Nat
  | [] => 0
  | x :: r => uptoBulkEntry x + uptoBulkEntries r
def uptoBulkEntry {H : Type} : Lit × DataW H → Nat
  | (.string bytes, d) => bytes.length + uptoBulk d + 1
  | (_, d) => uptoBulk d + 1
 end
def uptoSmall : (H : Type) → List (DataW H) → Bool := fun _ ds => decide (uptoBulkAll ds ≤ 1048576)
def OpenSpec.upto (s : _root_.Go.ChangeSpec) : _root_.Go.OpenSpec := { _root_.Go.OpenSpec.ofChange s with cond := some uptoSmall }

/-- 'laws.FnExactConstants', WHERE WHAT IT READS IS OF BULK AT MOST 1048576: true; the input reads as it did. -/
def fnExactConstantsUptoRow : OpenClaim := { program := "ytfbgjjmnkkgioaa", sum := "e3c305568f4a44990b9c5a65da7aeaaa16bdf64c780ab1ac686ce3f36551cfc6", func := "loop.example/g00059/laws.FnExactConstants", spec := "fnExactConstants", apart := false, narrowed := true }
def FnExactConstantsUptoSaid : Prop := fnExactConstantsUptoRow.holds Try.pinned (OpenSpec.upto fnExactConstantsSpec)

/-- 'laws.FnExactAlike', WHERE WHAT IT READS IS OF BULK AT MOST 1048576: true; the input reads as it did. -/
def fnExactAlikeUptoRow : OpenClaim := { program := "ytfbgjjmnkkgioaa", sum := "e3c305568f4a44990b9c5a65da7aeaaa16bdf64c780ab1ac686ce3f36551cfc6", func := "loop.example/g00059/laws.FnExactAlike", spec := "fnExactAlike", apart := false, narrowed := true }
def FnExactAlikeUptoSaid : Prop := fnExactAlikeUptoRow.holds Try.pinned (OpenSpec.upto fnExactAlikeSpec)

/-- 'laws.FnExactBarred', WHERE WHAT IT READS IS OF BULK AT MOST 1048576: true; the input reads as it did. -/
def fnExactBarredUptoRow : OpenClaim := { program := "ytfbgjjmnkkgioaa", sum := "e3c305568f4a44990b9c5a65da7aeaaa16bdf64c780ab1ac686ce3f36551cfc6", func := "loop.example/g00059/laws.FnExactBarred", spec := "fnExactBarred", apart := false, narrowed := true }
def FnExactBarredUptoSaid : Prop := fnExactBarredUptoRow.holds Try.pinned (OpenSpec.upto fnExactBarredSpec)

/-- 'laws.FnExactAddSmall', WHERE WHAT IT READS IS OF BULK AT MOST 1048576: true; the input reads as it did. -/
def fnExactAddSmallUptoRow : OpenClaim := { program := "ytfbgjjmnkkgioaa", sum := "e3c305568f4a44990b9c5a65da7aeaaa16bdf64c780ab1ac686ce3f36551cfc6", func := "loop.example/g00059/laws.FnExactAddSmall", spec := "fnExactAddSmall", apart := false, narrowed := true }
def FnExactAddSmallUptoSaid : Prop := fnExactAddSmallUptoRow.holds Try.pinned (OpenSpec.upto fnExactAddSmallSpec)

/-- 'laws.FnExactGreat', WHERE WHAT IT READS IS OF BULK AT MOST 1048576: true; the input reads as it did. -/
def fnExactGreatUptoRow : OpenClaim := { program := "ytfbgjjmnkkgioaa", sum := "e3c305568f4a44990b9c5a65da7aeaaa16bdf64c780ab1ac686ce3f36551cfc6", func := "loop.example/g00059/laws.FnExactGreat", spec := "fnExactGreat", apart := false, narrowed := true }
def FnExactGreatUptoSaid : Prop := fnExactGreatUptoRow.holds Try.pinned (OpenSpec.upto fnExactGreatSpec)

/-- 'laws.FnExactLessSmall', WHERE WHAT IT READS IS OF BULK AT MOST 1048576: true; the input reads as it did. -/
def fnExactLessSmallUptoRow : OpenClaim := { program := "ytfbgjjmnkkgioaa", sum := "e3c305568f4a44990b9c5a65da7aeaaa16bdf64c780ab1ac686ce3f36551cfc6", func := "loop.example/g00059/laws.FnExactLessSmall", spec := "fnExactLessSmall", apart := false, narrowed := true }
def FnExactLessSmallUptoSaid : Prop := fnExactLessSmallUptoRow.holds Try.pinned (OpenSpec.upto fnExactLessSmallSpec)

/-- 'laws.FnExactLittle', WHERE WHAT IT READS IS OF BULK AT MOST 1048576: true; the input reads as it did. -/
def fnExactLittleUptoRow : OpenClaim := { program := "ytfbgjjmnkkgioaa", sum := "e3c305568f4a44990b9c5a65da7aeaaa16bdf64c780ab1ac686ce3f36551cfc6", func := "loop.example/g00059/laws.FnExactLittle", spec := "fnExactLittle", apart := false, narrowed := true }
def FnExactLittleUptoSaid : Prop := fnExactLittleUptoRow.holds Try.pinned (OpenSpec.upto fnExactLittleSpec)

/-- 'laws.FnExactTimes', WHERE WHAT IT READS IS OF BULK AT MOST 1048576: true; the input reads as it did. -/
def fnExactTimesUptoRow : OpenClaim := { program := "ytfbgjjmnkkgioaa", sum := "e3c305568f4a44990b9c5a65da7aeaaa16bdf64c780ab1ac686ce3f36551cfc6", func := "loop.example/g00059/laws.FnExactTimes", spec := "fnExactTimes", apart := false, narrowed := true }
def FnExactTimesUptoSaid : Prop := fnExactTimesUptoRow.holds Try.pinned (OpenSpec.upto fnExactTimesSpec)

/-- 'laws.FnExactTimesSmall', WHERE WHAT IT READS IS OF BULK AT MOST 1048576: true; the input reads as it did. -/
def fnExactTimesSmallUptoRow : OpenClaim := { program := "ytfbgjjmnkkgioaa", sum := "e3c305568f4a44990b9c5a65da7aeaaa16bdf64c780ab1ac686ce3f36551cfc6", func := "loop.example/g00059/laws.FnExactTimesSmall", spec := "fnExactTimesSmall", apart := false, narrowed := true }
def FnExactTimesSmallUptoSaid : Prop := fnExactTimesSmallUptoRow.holds Try.pinned (OpenSpec.upto fnExactTimesSmallSpec)

/-- 'laws.FnExactStrip', WHERE WHAT IT READS IS OF BULK AT MOST 1048576: true; the input reads as it did. -/
def fnExactStripUptoRow : OpenClaim := { program := "ytfbgjjmnkkgioaa", sum := "e3c305568f4a44990b9c5a65da7aeaaa16bdf64c780ab1ac686ce3f36551cfc6", func := "loop.example/g00059/laws.FnExactStrip", spec := "fnExactStrip", apart := false, narrowed := true }
def FnExactStripUptoSaid : Prop := fnExactStripUptoRow.holds Try.pinned (OpenSpec.upto fnExactStripSpec)

/-- 'laws.FnExactSummed', WHERE WHAT IT READS IS OF BULK AT MOST 1048576: true; the input reads as it did. -/
def fnExactSummedUptoRow : OpenClaim := { program := "ytfbgjjmnkkgioaa", sum := "e3c305568f4a44990b9c5a65da7aeaaa16bdf64c780ab1ac686ce3f36551cfc6", func := "loop.example/g00059/laws.FnExactSummed", spec := "fnExactSummed", apart := false, narrowed := true }
def FnExactSummedUptoSaid : Prop := fnExactSummedUptoRow.holds Try.pinned (OpenSpec.upto fnExactSummedSpec)

/-- 'laws.FnExactEnergy', WHERE WHAT IT READS IS OF BULK AT MOST 1048576: true; the input reads as it did. -/
def fnExactEnergyUptoRow : OpenClaim := { program := "ytfbgjjmnkkgioaa", sum := "e3c305568f4a44990b9c5a65da7aeaaa16bdf64c780ab1ac686ce3f36551cfc6", func := "loop.example/g00059/laws.FnExactEnergy", spec := "fnExactEnergy", apart := false, narrowed := true }
def FnExactEnergyUptoSaid : Prop := fnExactEnergyUptoRow.holds Try.pinned (OpenSpec.upto fnExactEnergySpec)

end Rows
end Go.Proofs.Ytfbgjjmnkkgioaa
