import Derived.Test.YtfbokdbaondjdaaProg
import Derived.Test.YtfbokdbaondjdaaCz
import Derived.Below
import Derived.Deep.Draws
import Derived.Deep.AppendLies
import Derived.Maps.AppendAt
import Derived.OwnWalk
import Derived.Laws.BytesArg
import Derived.Laws.MakeOwn
import Derived.Laws.OwnMore
import Derived.Deep.OwnRows
import Derived.Tactics
import Derived.Lib.ConvBytes
import Derived.Laws.Slices
import Derived.WalkKit
import Derived.KernelRfl
import Derived.RowKit3
import Derived.Deep.LoopGhost
import Derived.Deep.QuietTactic
import Derived.BigQuiet
import Derived.WideLaws
import Derived.Deep.DeepCutAuto
import Derived.Deep.CutBlock
import Derived.Deep.RegionHeld3
import Derived.Laws.Rows
import Derived.Lib.AppendStr
import Derived.ArgAppend
import Derived.Laws.IdiomCopy
import Derived.OrdersHeld
import Derived.Laws.BitsLemmas
import Derived.RowKit
import Derived.Test.YtfbokdbaondjdaaWWords
import Derived.Test.YtfbokdbaondjdaaWLast
import Derived.Test.YtfbokdbaondjdaaWTab
import Derived.Test.YtfbokdbaondjdaaWFour
import Derived.Test.YtfbokdbaondjdaaWQPut
import Derived.Test.YtfbokdbaondjdaaWApart
import Derived.Test.YtfbokdbaondjdaaWArr
import Derived.Test.YtfbokdbaondjdaaWZeros
import Derived.Test.YtfbokdbaondjdaaWFoot
import Derived.Test.YtfbokdbaondjdaaWKept
import Derived.Test.YtfbokdbaondjdaaWShare
import Derived.Test.YtfbokdbaondjdaaWN
import Derived.Test.YtfbokdbaondjdaaWFootNe
import Derived.Test.YtfbokdbaondjdaaWAt
import Derived.Test.YtfbokdbaondjdaaWEqStruct
import Derived.Test.YtfbokdbaondjdaaWRepsOne
import Derived.Test.YtfbokdbaondjdaaWInv
import Derived.Test.YtfbokdbaondjdaaWInvWords
import Derived.Test.YtfbokdbaondjdaaWGuard
import Derived.Test.YtfbokdbaondjdaaWNEv
import Derived.Test.YtfbokdbaondjdaaWMore
namespace Go.Proofs.Ytfbokdbaondjdaa.PFnExactHeadOn
open Go.RowKit Go.Proofs.YtfbokdbaondjdaaW.PrintWords Go.Proofs.YtfbokdbaondjdaaW.PrintLast Go.Proofs.YtfbokdbaondjdaaW.PrintMore Go.Proofs.Ytfbokdbaondjdaa.Cz
attribute [local go_sem] max2_int min2_int max_two min_two max_three min_three max_four min_four
set_option linter.unusedVariables false
set_option linter.unusedSimpArgs false



def errW : Option Int → Value
 | none => .nilIface
 | some c => .iface 0 (.int .i64 c)
theorem errW_none : errW none = .nilIface := rfl
theorem errW_some (c : Int) : errW (some c) = .iface 0 (.int .i64 c) := rfl

-- the values' own types

end Go.Proofs.Ytfbokdbaondjdaa.PFnExactHeadOn
