-- By a program of this session, over the kit's print.
import Derived.Test.YtgmddhdlgbaagaaProg
import Derived.Below
import Derived.Deep.Draws
import Derived.Deep.AppendLies
import Derived.Maps.AppendAt
import Derived.OwnWalk
import Derived.Laws.BytesArg
import Derived.Laws.MakeOwn
import Derived.Laws.OwnMore
import Derived.Deep.OwnRows
import Derived.Tactics
import Derived.Lib.ConvBytes
import Derived.Laws.Slices
import Derived.WalkKit
import Derived.KernelRfl
import Derived.RowKit3
import Derived.Deep.LoopGhost
import Derived.Deep.QuietTactic
import Derived.BigQuiet
import Derived.WideLaws
import Derived.Deep.DeepCutAuto
import Derived.Deep.CutBlock
import Derived.Deep.RegionHeld3
import Derived.Laws.Rows
import Derived.Lib.AppendStr
import Derived.ArgAppend
import Derived.Laws.IdiomCopy
import Derived.OrdersHeld
import Derived.Laws.BitsLemmas
import Derived.RowKit
import Derived.Laws.Cover1
import Derived.Lib.Strings
import Derived.Lib.Slices
import Derived.Lib.Walk
import Derived.Lib.Bytealg
import Derived.Test.YtgmddhdlgbaagaaWWords
import Derived.Test.YtgmddhdlgbaagaaWLast
import Derived.Test.YtgmddhdlgbaagaaWTab
import Derived.Test.YtgmddhdlgbaagaaWFour
import Derived.Test.YtgmddhdlgbaagaaWQPut
import Derived.Test.YtgmddhdlgbaagaaWApart
import Derived.Test.YtgmddhdlgbaagaaWArr
import Derived.Test.YtgmddhdlgbaagaaWZeros
import Derived.Test.YtgmddhdlgbaagaaWFoot
import Derived.Test.YtgmddhdlgbaagaaWKept
import Derived.Test.YtgmddhdlgbaagaaWShare
import Derived.Test.YtgmddhdlgbaagaaWN
import Derived.Test.YtgmddhdlgbaagaaWFootNe
import Derived.Test.YtgmddhdlgbaagaaWAt
import Derived.Test.YtgmddhdlgbaagaaWEqStruct
import Derived.Test.YtgmddhdlgbaagaaWRepsOne
import Derived.Test.YtgmddhdlgbaagaaWInv
import Derived.Test.YtgmddhdlgbaagaaWInvWords
import Derived.Test.YtgmddhdlgbaagaaWGuard
import Derived.Test.YtgmddhdlgbaagaaWNEv
import Derived.Test.YtgmddhdlgbaagaaWMore
namespace Go.Proofs.Ytgmddhdlgbaagaa.QFnExactUnhex
open Go.RowKit Go.Proofs.YtgmddhdlgbaagaaW.PrintWords Go.Proofs.YtgmddhdlgbaagaaW.PrintLast Go.Proofs.YtgmddhdlgbaagaaW.PrintMore
attribute [local go_sem] max2_int min2_int max_two min_two max_three min_three max_four min_four   -- for this text's walks alone
set_option linter.unusedVariables false
set_option linter.unusedSimpArgs false



def errW : Option Int → Value
  | none => .nilIface
  | some c => .iface 0 (.int .i64 c)
theorem errW_none : errW none = .nilIface := rfl
theorem errW_some (c : Int) : errW (some c) = .iface 0 (.int .i64 c) := rfl

theorem info5 : (Try.prog.info? 5).map (fun i => (i.zero, i.size, i.bytes)) = some (some (.int .u8 0), 1, 1) := by kernel_rfl
-- the values' own types

end Go.Proofs.Ytgmddhdlgbaagaa.QFnExactUnhex
