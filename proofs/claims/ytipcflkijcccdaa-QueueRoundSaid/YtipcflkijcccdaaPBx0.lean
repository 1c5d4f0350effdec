-- The walks of single Go functions, laid by a program (pp.sh over the kit's print.py).
import Derived.Test.YtipcflkijcccdaaProg
import Derived.Below
import Derived.Deep.Draws
import Derived.Deep.AppendLies
import Derived.Maps.AppendAt
import Derived.OwnWalk
import Derived.Laws.BytesArg
import Derived.Laws.MakeOwn
import Derived.Laws.OwnMore
import Derived.Deep.OwnRows
import Derived.Tactics
import Derived.Lib.ConvBytes
import Derived.Laws.Slices
import Derived.WalkKit
import Derived.KernelRfl
import Derived.RowKit3
import Derived.Deep.LoopGhost
import Derived.Deep.QuietTactic
import Derived.BigQuiet
import Derived.WideLaws
import Derived.Deep.DeepCutAuto
import Derived.Deep.CutBlock
import Derived.Deep.RegionHeld3
import Derived.Laws.Rows
import Derived.Lib.AppendStr
import Derived.ArgAppend
import Derived.Laws.IdiomCopy
import Derived.OrdersHeld
import Derived.Laws.BitsLemmas
import Derived.RowKit
import Derived.Test.YtipcflkijcccdaaWWords
import Derived.Test.YtipcflkijcccdaaWLast
import Derived.Test.YtipcflkijcccdaaWTab
import Derived.Test.YtipcflkijcccdaaWFour
import Derived.Test.YtipcflkijcccdaaWQPut
import Derived.Test.YtipcflkijcccdaaWApart
import Derived.Test.YtipcflkijcccdaaWArr
import Derived.Test.YtipcflkijcccdaaWZeros
import Derived.Test.YtipcflkijcccdaaWFoot
import Derived.Test.YtipcflkijcccdaaWKept
import Derived.Test.YtipcflkijcccdaaWShare
import Derived.Test.YtipcflkijcccdaaWN
import Derived.Test.YtipcflkijcccdaaWFootNe
import Derived.Test.YtipcflkijcccdaaWAt
import Derived.Test.YtipcflkijcccdaaWEqStruct
import Derived.Test.YtipcflkijcccdaaWRepsOne
import Derived.Test.YtipcflkijcccdaaWInv
import Derived.Test.YtipcflkijcccdaaWInvWords
import Derived.Test.YtipcflkijcccdaaWGuard
import Derived.Test.YtipcflkijcccdaaWNEv
import Derived.Test.YtipcflkijcccdaaWMore
namespace Go.Proofs.Ytipcflkijcccdaa.PB
open Go.RowKit Go.Proofs.YtipcflkijcccdaaW.PrintWords Go.Proofs.YtipcflkijcccdaaW.PrintLast Go.Proofs.YtipcflkijcccdaaW.PrintMore
attribute [local go_sem] max2_int min2_int max_two min_two max_three min_three max_four min_four   -- for this text's walks alone
set_option linter.unusedVariables false
set_option linter.unusedSimpArgs false



def errW : Option Int → Value
  | none => .nilIface
  | some c => .iface 0 (.int .i64 c)
theorem errW_none : errW none = .nilIface := rfl
theorem errW_some (c : Int) : errW (some c) = .iface 0 (.int .i64 c) := rfl

-- the values' own types

end Go.Proofs.Ytipcflkijcccdaa.PB
