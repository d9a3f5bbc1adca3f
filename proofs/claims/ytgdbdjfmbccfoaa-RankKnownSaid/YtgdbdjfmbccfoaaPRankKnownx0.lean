-- Written by a program of this session (the kit's print, turned: wip/px).
import Derived.Test.YtgdbdjfmbccfoaaProg
import Derived.Below
import Derived.Deep.Draws
import Derived.Deep.AppendLies
import Derived.Maps.AppendAt
import Derived.OwnWalk
import Derived.Laws.BytesArg
import Derived.Laws.MakeOwn
import Derived.Laws.OwnMore
import Derived.Deep.OwnRows
import Derived.Tactics
import Derived.Lib.ConvBytes
import Derived.Laws.Slices
import Derived.WalkKit
import Derived.KernelRfl
import Derived.RowKit3
import Derived.Deep.LoopGhost
import Derived.Deep.QuietTactic
import Derived.BigQuiet
import Derived.WideLaws
import Derived.Deep.DeepCutAuto
import Derived.Deep.CutBlock
import Derived.Deep.RegionHeld3
import Derived.Laws.Rows
import Derived.Lib.AppendStr
import Derived.ArgAppend
import Derived.Laws.IdiomCopy
import Derived.OrdersHeld
import Derived.Laws.BitsLemmas
import Derived.RowKit
import Derived.LoopTactic
import Derived.Maps.AppendAt
import Derived.Laws.MakeOwn
import Derived.Laws.OwnMore
import Derived.Deep.RegionWith
import Derived.Test.YtgdbdjfmbccfoaaWWords
import Derived.Test.YtgdbdjfmbccfoaaWLast
import Derived.Test.YtgdbdjfmbccfoaaWTab
import Derived.Test.YtgdbdjfmbccfoaaWFour
import Derived.Test.YtgdbdjfmbccfoaaWQPut
import Derived.Test.YtgdbdjfmbccfoaaWApart
import Derived.Test.YtgdbdjfmbccfoaaWArr
import Derived.Test.YtgdbdjfmbccfoaaWZeros
import Derived.Test.YtgdbdjfmbccfoaaWFoot
import Derived.Test.YtgdbdjfmbccfoaaWKept
import Derived.Test.YtgdbdjfmbccfoaaWShare
import Derived.Test.YtgdbdjfmbccfoaaWN
import Derived.Test.YtgdbdjfmbccfoaaWFootNe
import Derived.Test.YtgdbdjfmbccfoaaWAt
import Derived.Test.YtgdbdjfmbccfoaaWEqStruct
import Derived.Test.YtgdbdjfmbccfoaaWRepsOne
import Derived.Test.YtgdbdjfmbccfoaaWInv
import Derived.Test.YtgdbdjfmbccfoaaWInvWords
import Derived.Test.YtgdbdjfmbccfoaaWGuard
import Derived.Test.YtgdbdjfmbccfoaaWNEv
import Derived.Test.YtgdbdjfmbccfoaaWMore
namespace Go.Proofs.Ytgdbdjfmbccfoaa.PRankKnown
open Go.RowKit Go.Proofs.YtgdbdjfmbccfoaaW.PrintWords Go.Proofs.YtgdbdjfmbccfoaaW.PrintLast Go.Proofs.YtgdbdjfmbccfoaaW.PrintMore
attribute [local go_sem] max2_int min2_int max_two min_two max_three min_three max_four min_four   -- for this text's walks alone
set_option linter.unusedVariables false
set_option linter.unusedSimpArgs false



def errW : Option Int → Value
  | none => .nilIface
  | some c => .iface 0 (.int .i64 c)
theorem errW_none : errW none = .nilIface := rfl
theorem errW_some (c : Int) : errW (some c) = .iface 0 (.int .i64 c) := rfl

theorem info3 : (Try.prog.info? 3).map (fun i => (i.zero, i.size, i.bytes)) = some (some (.int .i64 0), 1, 8) := by kernel_rfl
-- the values' own types

end Go.Proofs.Ytgdbdjfmbccfoaa.PRankKnown
