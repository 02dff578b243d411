-- Written by wip/myprint.py (the kit's print, with contracts of my own for some functions).
import Derived.Test.YtfklhpdnbbefbaaDoorProg
import Derived.Below
import Derived.Deep.Draws
import Derived.Deep.AppendLies
import Derived.Maps.AppendAt
import Derived.OwnWalk
import Derived.Laws.BytesArg
import Derived.Laws.MakeOwn
import Derived.Laws.OwnMore
import Derived.Deep.OwnRows
import Derived.Tactics
import Derived.Lib.ConvBytes
import Derived.Laws.Slices
import Derived.WalkKit
import Derived.KernelRfl
import Derived.RowKit3
import Derived.Deep.LoopGhost
import Derived.Deep.QuietTactic
import Derived.BigQuiet
import Derived.WideLaws
import Derived.Deep.DeepCutAuto
import Derived.Deep.CutBlock
import Derived.Deep.RegionHeld3
import Derived.Laws.Rows
import Derived.Lib.AppendStr
import Derived.ArgAppend
import Derived.Laws.IdiomCopy
import Derived.OrdersHeld
import Derived.Laws.BitsLemmas
import Derived.RowKit
import Derived.Test.YtfklhpdnbbefbaaDoorWWords
import Derived.Test.YtfklhpdnbbefbaaDoorWLast
import Derived.Test.YtfklhpdnbbefbaaDoorWTab
import Derived.Test.YtfklhpdnbbefbaaDoorWFour
import Derived.Test.YtfklhpdnbbefbaaDoorWQPut
import Derived.Test.YtfklhpdnbbefbaaDoorWApart
import Derived.Test.YtfklhpdnbbefbaaDoorWArr
import Derived.Test.YtfklhpdnbbefbaaDoorWZeros
import Derived.Test.YtfklhpdnbbefbaaDoorWFoot
import Derived.Test.YtfklhpdnbbefbaaDoorWKept
import Derived.Test.YtfklhpdnbbefbaaDoorWShare
import Derived.Test.YtfklhpdnbbefbaaDoorWN
import Derived.Test.YtfklhpdnbbefbaaDoorWFootNe
import Derived.Test.YtfklhpdnbbefbaaDoorWAt
import Derived.Test.YtfklhpdnbbefbaaDoorWEqStruct
import Derived.Test.YtfklhpdnbbefbaaDoorWRepsOne
import Derived.Test.YtfklhpdnbbefbaaDoorWInv
import Derived.Test.YtfklhpdnbbefbaaDoorWInvWords
import Derived.Test.YtfklhpdnbbefbaaDoorWGuard
import Derived.Test.YtfklhpdnbbefbaaDoorWNEv
import Derived.Test.YtfklhpdnbbefbaaDoorWMore
namespace Go.Proofs.YtfklhpdnbbefbaaDoor.Pm
open Go.RowKit Go.Proofs.YtfklhpdnbbefbaaDoorW.PrintWords Go.Proofs.YtfklhpdnbbefbaaDoorW.PrintLast Go.Proofs.YtfklhpdnbbefbaaDoorW.PrintMore
attribute [local go_sem] max2_int min2_int max_two min_two max_three min_three max_four min_four   -- for this text's walks alone
set_option linter.unusedVariables false
set_option linter.unusedSimpArgs false



def errW : Option Int → Value
  | none => .nilIface
  | some c => .iface 0 (.int .i64 c)
theorem errW_none : errW none = .nilIface := rfl
theorem errW_some (c : Int) : errW (some c) = .iface 0 (.int .i64 c) := rfl

theorem info3 : (Tryd.prog.info? 3).map (fun i => (i.zero, i.size, i.bytes)) = some (some (.int .i64 0), 1, 8) := by kernel_rfl
-- the values' own types

end Go.Proofs.YtfklhpdnbbefbaaDoor.Pm
