-- Printed for this claim by wip/pp.py over the kit's printer; Lean checks it.
import Derived.Test.YtiidbapgbomfjaaProg
import Derived.Below
import Derived.Deep.Draws
import Derived.Deep.AppendLies
import Derived.Maps.AppendAt
import Derived.OwnWalk
import Derived.Laws.BytesArg
import Derived.Laws.MakeOwn
import Derived.Laws.OwnMore
import Derived.Deep.OwnRows
import Derived.Tactics
import Derived.Lib.ConvBytes
import Derived.Laws.Slices
import Derived.WalkKit
import Derived.KernelRfl
import Derived.RowKit3
import Derived.Deep.LoopGhost
import Derived.Deep.QuietTactic
import Derived.BigQuiet
import Derived.WideLaws
import Derived.Deep.DeepCutAuto
import Derived.Deep.CutBlock
import Derived.Deep.RegionHeld3
import Derived.Laws.Rows
import Derived.Lib.AppendStr
import Derived.ArgAppend
import Derived.Laws.IdiomCopy
import Derived.OrdersHeld
import Derived.Laws.BitsLemmas
import Derived.RowKit
import Derived.Test.YtiidbapgbomfjaaWWords
import Derived.Test.YtiidbapgbomfjaaWLast
import Derived.Test.YtiidbapgbomfjaaWTab
import Derived.Test.YtiidbapgbomfjaaWFour
import Derived.Test.YtiidbapgbomfjaaWQPut
import Derived.Test.YtiidbapgbomfjaaWApart
import Derived.Test.YtiidbapgbomfjaaWArr
import Derived.Test.YtiidbapgbomfjaaWZeros
import Derived.Test.YtiidbapgbomfjaaWFoot
import Derived.Test.YtiidbapgbomfjaaWKept
import Derived.Test.YtiidbapgbomfjaaWShare
import Derived.Test.YtiidbapgbomfjaaWN
import Derived.Test.YtiidbapgbomfjaaWFootNe
import Derived.Test.YtiidbapgbomfjaaWAt
import Derived.Test.YtiidbapgbomfjaaWEqStruct
import Derived.Test.YtiidbapgbomfjaaWRepsOne
import Derived.Test.YtiidbapgbomfjaaWInv
import Derived.Test.YtiidbapgbomfjaaWInvWords
import Derived.Test.YtiidbapgbomfjaaWGuard
import Derived.Test.YtiidbapgbomfjaaWNEv
import Derived.Test.YtiidbapgbomfjaaWMore
namespace Go.Proofs.Ytiidbapgbomfjaa.PFnExactProductAt
open Go.RowKit Go.Proofs.YtiidbapgbomfjaaW.PrintWords Go.Proofs.YtiidbapgbomfjaaW.PrintLast Go.Proofs.YtiidbapgbomfjaaW.PrintMore
attribute [local go_sem] max2_int min2_int max_two min_two max_three min_three max_four min_four   -- for this text's walks alone
set_option linter.unusedVariables false
set_option linter.unusedSimpArgs false



def errW : Option Int → Value
  | none => .nilIface
  | some c => .iface 0 (.int .i64 c)
theorem errW_none : errW none = .nilIface := rfl
theorem errW_some (c : Int) : errW (some c) = .iface 0 (.int .i64 c) := rfl

theorem info3 : (Try.prog.info? 3).map (fun i => (i.zero, i.size, i.bytes)) = some (some (.int .i64 0), 1, 8) := by kernel_rfl
-- the values' own types

end Go.Proofs.Ytiidbapgbomfjaa.PFnExactProductAt
