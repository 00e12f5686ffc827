-- Laid by wip/hprint.py: the kit's print of the translation, turned in places, beside contracts that this session wrote by hand; Lean checks all of it.
import Derived.Test.YtjhimmnogjmngaaDoorProg
import Derived.Below
import Derived.Deep.Draws
import Derived.Deep.AppendLies
import Derived.Maps.AppendAt
import Derived.OwnWalk
import Derived.Laws.BytesArg
import Derived.Laws.MakeOwn
import Derived.Laws.OwnMore
import Derived.Deep.OwnRows
import Derived.Tactics
import Derived.Lib.ConvBytes
import Derived.Laws.Slices
import Derived.WalkKit
import Derived.KernelRfl
import Derived.RowKit3
import Derived.Deep.LoopGhost
import Derived.Deep.QuietTactic
import Derived.BigQuiet
import Derived.WideLaws
import Derived.Deep.DeepCutAuto
import Derived.Deep.CutBlock
import Derived.Deep.RegionHeld3
import Derived.Laws.Rows
import Derived.Lib.AppendStr
import Derived.ArgAppend
import Derived.Laws.IdiomCopy
import Derived.OrdersHeld
import Derived.Laws.BitsLemmas
import Derived.RowKit
import Derived.Test.YtjhimmnogjmngaaDoorCrc
import Derived.Test.YtjhimmnogjmngaaDoorBRow
import Derived.Test.YtjhimmnogjmngaaDoorTurn
import Derived.Test.YtjhimmnogjmngaaDoorOct
import Derived.Lib.LaidTab
import Derived.WalkSmall
import Derived.Lib.Hide
import Derived.Test.YtjhimmnogjmngaaDoorWWords
import Derived.Test.YtjhimmnogjmngaaDoorWLast
import Derived.Test.YtjhimmnogjmngaaDoorWTab
import Derived.Test.YtjhimmnogjmngaaDoorWFour
import Derived.Test.YtjhimmnogjmngaaDoorWQPut
import Derived.Test.YtjhimmnogjmngaaDoorWApart
import Derived.Test.YtjhimmnogjmngaaDoorWArr
import Derived.Test.YtjhimmnogjmngaaDoorWZeros
import Derived.Test.YtjhimmnogjmngaaDoorWFoot
import Derived.Test.YtjhimmnogjmngaaDoorWKept
import Derived.Test.YtjhimmnogjmngaaDoorWShare
import Derived.Test.YtjhimmnogjmngaaDoorWN
import Derived.Test.YtjhimmnogjmngaaDoorWFootNe
import Derived.Test.YtjhimmnogjmngaaDoorWAt
import Derived.Test.YtjhimmnogjmngaaDoorWEqStruct
import Derived.Test.YtjhimmnogjmngaaDoorWRepsOne
import Derived.Test.YtjhimmnogjmngaaDoorWInv
import Derived.Test.YtjhimmnogjmngaaDoorWInvWords
import Derived.Test.YtjhimmnogjmngaaDoorWGuard
import Derived.Test.YtjhimmnogjmngaaDoorWNEv
import Derived.Test.YtjhimmnogjmngaaDoorWMore
namespace Go.Proofs.YtjhimmnogjmngaaDoor.Px
open Go.RowKit Go.Proofs.YtjhimmnogjmngaaDoorW.PrintWords Go.Proofs.YtjhimmnogjmngaaDoorW.PrintLast Go.Proofs.YtjhimmnogjmngaaDoorW.PrintMore
attribute [local go_sem] max2_int min2_int max_two min_two max_three min_three max_four min_four   -- for this text's walks alone
set_option linter.unusedVariables false
set_option linter.unusedSimpArgs false



def errW : Option Int → Value
  | none => .nilIface
  | some c => .iface 0 (.int .i64 c)
theorem errW_none : errW none = .nilIface := rfl
theorem errW_some (c : Int) : errW (some c) = .iface 0 (.int .i64 c) := rfl

theorem info3 : (Tryd.prog.info? 3).map (fun i => (i.zero, i.size, i.bytes)) = some (some (.int .i64 0), 1, 8) := by kernel_rfl
theorem info5 : (Tryd.prog.info? 5).map (fun i => (i.zero, i.size, i.bytes)) = some (some (.int .u8 0), 1, 1) := by kernel_rfl
theorem info9 : (Tryd.prog.info? 9).map (fun i => (i.zero, i.size, i.bytes)) = some (some (.string ⟨#[]⟩), 1, 16) := by kernel_rfl
-- the values' own types

end Go.Proofs.YtjhimmnogjmngaaDoor.Px
