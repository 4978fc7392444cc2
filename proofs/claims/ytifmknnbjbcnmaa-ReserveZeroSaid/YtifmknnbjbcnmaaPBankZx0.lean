/- Written by a program of this session (wip/tools/hprint.py), over the kit's print, with hand-written contracts. -/
import Derived.Test.YtifmknnbjbcnmaaProg
import Derived.Below
import Derived.Deep.Draws
import Derived.Deep.AppendLies
import Derived.Maps.AppendAt
import Derived.OwnWalk
import Derived.Laws.BytesArg
import Derived.Laws.MakeOwn
import Derived.Laws.OwnMore
import Derived.Deep.OwnRows
import Derived.Tactics
import Derived.Lib.ConvBytes
import Derived.Laws.Slices
import Derived.WalkKit
import Derived.KernelRfl
import Derived.RowKit3
import Derived.Deep.LoopGhost
import Derived.Deep.QuietTactic
import Derived.BigQuiet
import Derived.WideLaws
import Derived.Deep.DeepCutAuto
import Derived.Deep.CutBlock
import Derived.Deep.RegionHeld3
import Derived.Laws.Rows
import Derived.Lib.AppendStr
import Derived.ArgAppend
import Derived.Laws.IdiomCopy
import Derived.OrdersHeld
import Derived.Laws.BitsLemmas
import Derived.RowKit
import Derived.Test.YtifmknnbjbcnmaaWWords
import Derived.Test.YtifmknnbjbcnmaaWLast
import Derived.Test.YtifmknnbjbcnmaaWTab
import Derived.Test.YtifmknnbjbcnmaaWFour
import Derived.Test.YtifmknnbjbcnmaaWQPut
import Derived.Test.YtifmknnbjbcnmaaWApart
import Derived.Test.YtifmknnbjbcnmaaWArr
import Derived.Test.YtifmknnbjbcnmaaWZeros
import Derived.Test.YtifmknnbjbcnmaaWFoot
import Derived.Test.YtifmknnbjbcnmaaWKept
import Derived.Test.YtifmknnbjbcnmaaWShare
import Derived.Test.YtifmknnbjbcnmaaWN
import Derived.Test.YtifmknnbjbcnmaaWFootNe
import Derived.Test.YtifmknnbjbcnmaaWAt
import Derived.Test.YtifmknnbjbcnmaaWEqStruct
import Derived.Test.YtifmknnbjbcnmaaWRepsOne
import Derived.Test.YtifmknnbjbcnmaaWInv
import Derived.Test.YtifmknnbjbcnmaaWInvWords
import Derived.Test.YtifmknnbjbcnmaaWGuard
import Derived.Test.YtifmknnbjbcnmaaWNEv
import Derived.Test.YtifmknnbjbcnmaaWMore
import Derived.Test.YtifmknnbjbcnmaaX0Mem
namespace Go.Proofs.Ytifmknnbjbcnmaa.PBankZ
open Go.RowKit Go.Proofs.YtifmknnbjbcnmaaW.PrintWords Go.Proofs.YtifmknnbjbcnmaaW.PrintLast Go.Proofs.YtifmknnbjbcnmaaW.PrintMore
attribute [local go_sem] max2_int min2_int max_two min_two max_three min_three max_four min_four Go.IntKind.wrap_u8   -- for this text's walks alone
set_option linter.unusedVariables false
set_option linter.unusedSimpArgs false



def errW : Option Int → Value
  | none => .nilIface
  | some c => .iface 0 (.int .i64 c)
theorem errW_none : errW none = .nilIface := rfl
theorem errW_some (c : Int) : errW (some c) = .iface 0 (.int .i64 c) := rfl

theorem info5 : (Try.prog.info? 5).map (fun i => (i.zero, i.size, i.bytes)) = some (some (.int .u8 0), 1, 1) := by kernel_rfl
-- the values' own types

end Go.Proofs.Ytifmknnbjbcnmaa.PBankZ
