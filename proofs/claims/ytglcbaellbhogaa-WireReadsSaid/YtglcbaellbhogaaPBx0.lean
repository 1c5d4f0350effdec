-- The walks of single Go functions, laid by a program (pp.sh over the kit's print.py).
import Derived.Test.YtglcbaellbhogaaProg
import Derived.Below
import Derived.Deep.Draws
import Derived.Deep.AppendLies
import Derived.Maps.AppendAt
import Derived.OwnWalk
import Derived.Laws.BytesArg
import Derived.Laws.MakeOwn
import Derived.Laws.OwnMore
import Derived.Deep.OwnRows
import Derived.Tactics
import Derived.Lib.ConvBytes
import Derived.Laws.Slices
import Derived.WalkKit
import Derived.KernelRfl
import Derived.RowKit3
import Derived.Deep.LoopGhost
import Derived.Deep.QuietTactic
import Derived.BigQuiet
import Derived.WideLaws
import Derived.Deep.DeepCutAuto
import Derived.Deep.CutBlock
import Derived.Deep.RegionHeld3
import Derived.Laws.Rows
import Derived.Lib.AppendStr
import Derived.ArgAppend
import Derived.Laws.IdiomCopy
import Derived.OrdersHeld
import Derived.Laws.BitsLemmas
import Derived.RowKit
import Derived.Test.YtglcbaellbhogaaWWords
import Derived.Test.YtglcbaellbhogaaWLast
import Derived.Test.YtglcbaellbhogaaWTab
import Derived.Test.YtglcbaellbhogaaWFour
import Derived.Test.YtglcbaellbhogaaWQPut
import Derived.Test.YtglcbaellbhogaaWApart
import Derived.Test.YtglcbaellbhogaaWArr
import Derived.Test.YtglcbaellbhogaaWZeros
import Derived.Test.YtglcbaellbhogaaWFoot
import Derived.Test.YtglcbaellbhogaaWKept
import Derived.Test.YtglcbaellbhogaaWShare
import Derived.Test.YtglcbaellbhogaaWN
import Derived.Test.YtglcbaellbhogaaWFootNe
import Derived.Test.YtglcbaellbhogaaWAt
import Derived.Test.YtglcbaellbhogaaWEqStruct
import Derived.Test.YtglcbaellbhogaaWRepsOne
import Derived.Test.YtglcbaellbhogaaWInv
import Derived.Test.YtglcbaellbhogaaWInvWords
import Derived.Test.YtglcbaellbhogaaWGuard
import Derived.Test.YtglcbaellbhogaaWNEv
import Derived.Test.YtglcbaellbhogaaWMore
namespace Go.Proofs.Ytglcbaellbhogaa.PB
open Go.RowKit Go.Proofs.YtglcbaellbhogaaW.PrintWords Go.Proofs.YtglcbaellbhogaaW.PrintLast Go.Proofs.YtglcbaellbhogaaW.PrintMore
attribute [local go_sem] max2_int min2_int max_two min_two max_three min_three max_four min_four   -- for this text's walks alone
set_option linter.unusedVariables false
set_option linter.unusedSimpArgs false



def errW : Option Int → Value
  | none => .nilIface
  | some c => .iface 0 (.int .i64 c)
theorem errW_none : errW none = .nilIface := rfl
theorem errW_some (c : Int) : errW (some c) = .iface 0 (.int .i64 c) := rfl

theorem info5 : (Try.prog.info? 5).map (fun i => (i.zero, i.size, i.bytes)) = some (some (.int .u8 0), 1, 1) := by kernel_rfl
-- the values' own types

end Go.Proofs.Ytglcbaellbhogaa.PB
