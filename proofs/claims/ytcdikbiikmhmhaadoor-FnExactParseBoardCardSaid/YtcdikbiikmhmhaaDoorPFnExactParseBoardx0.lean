-- Printed for this claim by wip/pp.py over the kit's printer; Lean checks it.
import Derived.Test.YtcdikbiikmhmhaaDoorProg
import Derived.Below
import Derived.Deep.Draws
import Derived.Deep.AppendLies
import Derived.Maps.AppendAt
import Derived.OwnWalk
import Derived.Laws.BytesArg
import Derived.Laws.MakeOwn
import Derived.Laws.OwnMore
import Derived.Deep.OwnRows
import Derived.Tactics
import Derived.Lib.ConvBytes
import Derived.Laws.Slices
import Derived.WalkKit
import Derived.KernelRfl
import Derived.RowKit3
import Derived.Deep.LoopGhost
import Derived.Deep.QuietTactic
import Derived.BigQuiet
import Derived.WideLaws
import Derived.Deep.DeepCutAuto
import Derived.Deep.CutBlock
import Derived.Deep.RegionHeld3
import Derived.Laws.Rows
import Derived.Lib.AppendStr
import Derived.ArgAppend
import Derived.Laws.IdiomCopy
import Derived.OrdersHeld
import Derived.Laws.BitsLemmas
import Derived.RowKit
import Derived.Lib.IndexBytes
import Derived.Lib.IndexLaws
import Derived.Shelf.Strings.Split
import Derived.Test.YtcdikbiikmhmhaaDoorWWords
import Derived.Test.YtcdikbiikmhmhaaDoorWLast
import Derived.Test.YtcdikbiikmhmhaaDoorWTab
import Derived.Test.YtcdikbiikmhmhaaDoorWFour
import Derived.Test.YtcdikbiikmhmhaaDoorWQPut
import Derived.Test.YtcdikbiikmhmhaaDoorWApart
import Derived.Test.YtcdikbiikmhmhaaDoorWArr
import Derived.Test.YtcdikbiikmhmhaaDoorWZeros
import Derived.Test.YtcdikbiikmhmhaaDoorWFoot
import Derived.Test.YtcdikbiikmhmhaaDoorWKept
import Derived.Test.YtcdikbiikmhmhaaDoorWShare
import Derived.Test.YtcdikbiikmhmhaaDoorWN
import Derived.Test.YtcdikbiikmhmhaaDoorWFootNe
import Derived.Test.YtcdikbiikmhmhaaDoorWAt
import Derived.Test.YtcdikbiikmhmhaaDoorWEqStruct
import Derived.Test.YtcdikbiikmhmhaaDoorWRepsOne
import Derived.Test.YtcdikbiikmhmhaaDoorWInv
import Derived.Test.YtcdikbiikmhmhaaDoorWInvWords
import Derived.Test.YtcdikbiikmhmhaaDoorWGuard
import Derived.Test.YtcdikbiikmhmhaaDoorWNEv
import Derived.Test.YtcdikbiikmhmhaaDoorWMore
namespace Go.Proofs.YtcdikbiikmhmhaaDoor.PFnExactParseBoard
open Go.RowKit Go.Proofs.YtcdikbiikmhmhaaDoorW.PrintWords Go.Proofs.YtcdikbiikmhmhaaDoorW.PrintLast Go.Proofs.YtcdikbiikmhmhaaDoorW.PrintMore
attribute [local go_sem] max2_int min2_int max_two min_two max_three min_three max_four min_four   -- for this text's walks alone
set_option linter.unusedVariables false
set_option linter.unusedSimpArgs false



def errW : Option Int → Value
  | none => .nilIface
  | some c => .iface 0 (.int .i64 c)
theorem errW_none : errW none = .nilIface := rfl
theorem errW_some (c : Int) : errW (some c) = .iface 0 (.int .i64 c) := rfl

theorem info3 : (Tryd.prog.info? 3).map (fun i => (i.zero, i.size, i.bytes)) = some (some (.int .i64 0), 1, 8) := by kernel_rfl
theorem info5 : (Tryd.prog.info? 5).map (fun i => (i.zero, i.size, i.bytes)) = some (some (.int .u8 0), 1, 1) := by kernel_rfl
theorem info9 : (Tryd.prog.info? 9).map (fun i => (i.zero, i.size, i.bytes)) = some (some (.string ⟨#[]⟩), 1, 16) := by kernel_rfl
-- the values' own types

end Go.Proofs.YtcdikbiikmhmhaaDoor.PFnExactParseBoard
