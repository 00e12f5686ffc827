-- Laid by wip/hprint.py: the kit's print of the translation, turned in places, beside contracts that this session wrote by hand; Lean checks all of it.
import Derived.Test.YthhpoogocpdbjaaProg
import Derived.Below
import Derived.Deep.Draws
import Derived.Deep.AppendLies
import Derived.Maps.AppendAt
import Derived.OwnWalk
import Derived.Laws.BytesArg
import Derived.Laws.MakeOwn
import Derived.Laws.OwnMore
import Derived.Deep.OwnRows
import Derived.Tactics
import Derived.Lib.ConvBytes
import Derived.Laws.Slices
import Derived.WalkKit
import Derived.KernelRfl
import Derived.RowKit3
import Derived.Deep.LoopGhost
import Derived.Deep.QuietTactic
import Derived.BigQuiet
import Derived.WideLaws
import Derived.Deep.DeepCutAuto
import Derived.Deep.CutBlock
import Derived.Deep.RegionHeld3
import Derived.Laws.Rows
import Derived.Lib.AppendStr
import Derived.ArgAppend
import Derived.Laws.IdiomCopy
import Derived.OrdersHeld
import Derived.Laws.BitsLemmas
import Derived.RowKit
import Derived.Test.YthhpoogocpdbjaaOct
import Derived.Test.YthhpoogocpdbjaaBld
import Derived.Test.YthhpoogocpdbjaaShelf
import Derived.Test.YthhpoogocpdbjaaStr
import Derived.StillTailTactics
import Derived.Lib.LaidTab
import Derived.WalkSmall
import Derived.Lib.Hide
import Derived.Test.YthhpoogocpdbjaaWWords
import Derived.Test.YthhpoogocpdbjaaWLast
import Derived.Test.YthhpoogocpdbjaaWTab
import Derived.Test.YthhpoogocpdbjaaWFour
import Derived.Test.YthhpoogocpdbjaaWQPut
import Derived.Test.YthhpoogocpdbjaaWApart
import Derived.Test.YthhpoogocpdbjaaWArr
import Derived.Test.YthhpoogocpdbjaaWZeros
import Derived.Test.YthhpoogocpdbjaaWFoot
import Derived.Test.YthhpoogocpdbjaaWKept
import Derived.Test.YthhpoogocpdbjaaWShare
import Derived.Test.YthhpoogocpdbjaaWN
import Derived.Test.YthhpoogocpdbjaaWFootNe
import Derived.Test.YthhpoogocpdbjaaWAt
import Derived.Test.YthhpoogocpdbjaaWEqStruct
import Derived.Test.YthhpoogocpdbjaaWRepsOne
import Derived.Test.YthhpoogocpdbjaaWInv
import Derived.Test.YthhpoogocpdbjaaWInvWords
import Derived.Test.YthhpoogocpdbjaaWGuard
import Derived.Test.YthhpoogocpdbjaaWNEv
import Derived.Test.YthhpoogocpdbjaaWMore
namespace Go.Proofs.Ythhpoogocpdbjaa.Px
open Go.RowKit Go.Proofs.YthhpoogocpdbjaaW.PrintWords Go.Proofs.YthhpoogocpdbjaaW.PrintLast Go.Proofs.YthhpoogocpdbjaaW.PrintMore
attribute [local go_sem] max2_int min2_int max_two min_two max_three min_three max_four min_four   -- for this text's walks alone
set_option linter.unusedVariables false
set_option linter.unusedSimpArgs false



def errW : Option Int → Value
  | none => .nilIface
  | some c => .iface 0 (.int .i64 c)
theorem errW_none : errW none = .nilIface := rfl
theorem errW_some (c : Int) : errW (some c) = .iface 0 (.int .i64 c) := rfl

theorem info3 : (Try.prog.info? 3).map (fun i => (i.zero, i.size, i.bytes)) = some (some (.int .i64 0), 1, 8) := by kernel_rfl
theorem info5 : (Try.prog.info? 5).map (fun i => (i.zero, i.size, i.bytes)) = some (some (.int .u8 0), 1, 1) := by kernel_rfl
-- the values' own types

end Go.Proofs.Ythhpoogocpdbjaa.Px
