-- Laid by wip/hprint.py: the kit's print of the translation, turned in places, beside contracts that this session wrote by hand; Lean checks all of it.
import Derived.Test.YtejifcboopifaaaDoorProg
import Derived.Below
import Derived.Deep.Draws
import Derived.Deep.AppendLies
import Derived.Maps.AppendAt
import Derived.OwnWalk
import Derived.Laws.BytesArg
import Derived.Laws.MakeOwn
import Derived.Laws.OwnMore
import Derived.Deep.OwnRows
import Derived.Tactics
import Derived.Lib.ConvBytes
import Derived.Laws.Slices
import Derived.WalkKit
import Derived.KernelRfl
import Derived.RowKit3
import Derived.Deep.LoopGhost
import Derived.Deep.QuietTactic
import Derived.BigQuiet
import Derived.WideLaws
import Derived.Deep.DeepCutAuto
import Derived.Deep.CutBlock
import Derived.Deep.RegionHeld3
import Derived.Laws.Rows
import Derived.Lib.AppendStr
import Derived.ArgAppend
import Derived.Laws.IdiomCopy
import Derived.OrdersHeld
import Derived.Laws.BitsLemmas
import Derived.RowKit
import Derived.Test.YtejifcboopifaaaDoorCrc
import Derived.Test.YtejifcboopifaaaDoorBRow
import Derived.Test.YtejifcboopifaaaDoorTurn
import Derived.Lib.LaidTab
import Derived.WalkSmall
import Derived.Lib.Hide
import Derived.Test.YtejifcboopifaaaDoorWWords
import Derived.Test.YtejifcboopifaaaDoorWLast
import Derived.Test.YtejifcboopifaaaDoorWTab
import Derived.Test.YtejifcboopifaaaDoorWFour
import Derived.Test.YtejifcboopifaaaDoorWQPut
import Derived.Test.YtejifcboopifaaaDoorWApart
import Derived.Test.YtejifcboopifaaaDoorWArr
import Derived.Test.YtejifcboopifaaaDoorWZeros
import Derived.Test.YtejifcboopifaaaDoorWFoot
import Derived.Test.YtejifcboopifaaaDoorWKept
import Derived.Test.YtejifcboopifaaaDoorWShare
import Derived.Test.YtejifcboopifaaaDoorWN
import Derived.Test.YtejifcboopifaaaDoorWFootNe
import Derived.Test.YtejifcboopifaaaDoorWAt
import Derived.Test.YtejifcboopifaaaDoorWEqStruct
import Derived.Test.YtejifcboopifaaaDoorWRepsOne
import Derived.Test.YtejifcboopifaaaDoorWInv
import Derived.Test.YtejifcboopifaaaDoorWInvWords
import Derived.Test.YtejifcboopifaaaDoorWGuard
import Derived.Test.YtejifcboopifaaaDoorWNEv
import Derived.Test.YtejifcboopifaaaDoorWMore
namespace Go.Proofs.YtejifcboopifaaaDoor.Px
open Go.RowKit Go.Proofs.YtejifcboopifaaaDoorW.PrintWords Go.Proofs.YtejifcboopifaaaDoorW.PrintLast Go.Proofs.YtejifcboopifaaaDoorW.PrintMore
attribute [local go_sem] max2_int min2_int max_two min_two max_three min_three max_four min_four   -- for this text's walks alone
set_option linter.unusedVariables false
set_option linter.unusedSimpArgs false



def errW : Option Int → Value
  | none => .nilIface
  | some c => .iface 0 (.int .i64 c)
theorem errW_none : errW none = .nilIface := rfl
theorem errW_some (c : Int) : errW (some c) = .iface 0 (.int .i64 c) := rfl

theorem info5 : (Tryd.prog.info? 5).map (fun i => (i.zero, i.size, i.bytes)) = some (some (.int .u8 0), 1, 1) := by kernel_rfl
-- the values' own types

end Go.Proofs.YtejifcboopifaaaDoor.Px
