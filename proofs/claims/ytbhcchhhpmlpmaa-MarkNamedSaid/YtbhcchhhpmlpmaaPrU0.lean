/- The machine's side of some functions: each Go function as a plain Lean function, and a proof that its call comes to what that says. Written by a program of the session's over the kit's print. -/
import Derived.Test.YtbhcchhhpmlpmaaProg
import Derived.Below
import Derived.Deep.Draws
import Derived.Deep.AppendLies
import Derived.Maps.AppendAt
import Derived.OwnWalk
import Derived.Laws.BytesArg
import Derived.Laws.MakeOwn
import Derived.Laws.OwnMore
import Derived.Deep.OwnRows
import Derived.Tactics
import Derived.Lib.ConvBytes
import Derived.Laws.Slices
import Derived.WalkKit
import Derived.KernelRfl
import Derived.RowKit3
import Derived.Deep.LoopGhost
import Derived.Deep.QuietTactic
import Derived.BigQuiet
import Derived.WideLaws
import Derived.Deep.DeepCutAuto
import Derived.Deep.CutBlock
import Derived.Deep.RegionHeld3
import Derived.Laws.Rows
import Derived.Lib.AppendStr
import Derived.ArgAppend
import Derived.Laws.IdiomCopy
import Derived.OrdersHeld
import Derived.Laws.BitsLemmas
import Derived.RowKit
import Derived.Test.YtbhcchhhpmlpmaaHWithin
import Derived.Test.YtbhcchhhpmlpmaaPrR1
import Derived.Test.YtbhcchhhpmlpmaaPrR2
import Derived.Test.YtbhcchhhpmlpmaaWWords
import Derived.Test.YtbhcchhhpmlpmaaWLast
import Derived.Test.YtbhcchhhpmlpmaaWTab
import Derived.Test.YtbhcchhhpmlpmaaWFour
import Derived.Test.YtbhcchhhpmlpmaaWQPut
import Derived.Test.YtbhcchhhpmlpmaaWApart
import Derived.Test.YtbhcchhhpmlpmaaWArr
import Derived.Test.YtbhcchhhpmlpmaaWZeros
import Derived.Test.YtbhcchhhpmlpmaaWFoot
import Derived.Test.YtbhcchhhpmlpmaaWKept
import Derived.Test.YtbhcchhhpmlpmaaWShare
import Derived.Test.YtbhcchhhpmlpmaaWN
import Derived.Test.YtbhcchhhpmlpmaaWFootNe
import Derived.Test.YtbhcchhhpmlpmaaWAt
import Derived.Test.YtbhcchhhpmlpmaaWEqStruct
import Derived.Test.YtbhcchhhpmlpmaaWRepsOne
import Derived.Test.YtbhcchhhpmlpmaaWInv
import Derived.Test.YtbhcchhhpmlpmaaWInvWords
import Derived.Test.YtbhcchhhpmlpmaaWGuard
import Derived.Test.YtbhcchhhpmlpmaaWNEv
import Derived.Test.YtbhcchhhpmlpmaaWMore
namespace Go.Proofs.Ytbhcchhhpmlpmaa.PrU
open Go.RowKit Go.Proofs.YtbhcchhhpmlpmaaW.PrintWords Go.Proofs.YtbhcchhhpmlpmaaW.PrintLast Go.Proofs.YtbhcchhhpmlpmaaW.PrintMore Go.Proofs.Ytbhcchhhpmlpmaa.Hand Go.Proofs.Ytbhcchhhpmlpmaa.PrR
attribute [local go_sem] max2_int min2_int max_two min_two max_three min_three max_four min_four   -- for this text's walks alone
set_option linter.unusedVariables false
set_option linter.unusedSimpArgs false



def errW : Option Int → Value
  | none => .nilIface
  | some c => .iface 0 (.int .i64 c)
theorem errW_none : errW none = .nilIface := rfl
theorem errW_some (c : Int) : errW (some c) = .iface 0 (.int .i64 c) := rfl

-- the values' own types

end Go.Proofs.Ytbhcchhhpmlpmaa.PrU
