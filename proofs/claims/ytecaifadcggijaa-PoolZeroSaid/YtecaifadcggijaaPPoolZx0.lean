/- Written by a program of this session (wip/tools/hprint.py), over the kit's print, with hand-written contracts. -/
import Derived.Test.YtecaifadcggijaaProg
import Derived.Below
import Derived.Deep.Draws
import Derived.Deep.AppendLies
import Derived.Maps.AppendAt
import Derived.OwnWalk
import Derived.Laws.BytesArg
import Derived.Laws.MakeOwn
import Derived.Laws.OwnMore
import Derived.Deep.OwnRows
import Derived.Tactics
import Derived.Lib.ConvBytes
import Derived.Laws.Slices
import Derived.WalkKit
import Derived.KernelRfl
import Derived.RowKit3
import Derived.Deep.LoopGhost
import Derived.Deep.QuietTactic
import Derived.BigQuiet
import Derived.WideLaws
import Derived.Deep.DeepCutAuto
import Derived.Deep.CutBlock
import Derived.Deep.RegionHeld3
import Derived.Laws.Rows
import Derived.Lib.AppendStr
import Derived.ArgAppend
import Derived.Laws.IdiomCopy
import Derived.OrdersHeld
import Derived.Laws.BitsLemmas
import Derived.RowKit
import Derived.Test.YtecaifadcggijaaWWords
import Derived.Test.YtecaifadcggijaaWLast
import Derived.Test.YtecaifadcggijaaWTab
import Derived.Test.YtecaifadcggijaaWFour
import Derived.Test.YtecaifadcggijaaWQPut
import Derived.Test.YtecaifadcggijaaWApart
import Derived.Test.YtecaifadcggijaaWArr
import Derived.Test.YtecaifadcggijaaWZeros
import Derived.Test.YtecaifadcggijaaWFoot
import Derived.Test.YtecaifadcggijaaWKept
import Derived.Test.YtecaifadcggijaaWShare
import Derived.Test.YtecaifadcggijaaWN
import Derived.Test.YtecaifadcggijaaWFootNe
import Derived.Test.YtecaifadcggijaaWAt
import Derived.Test.YtecaifadcggijaaWEqStruct
import Derived.Test.YtecaifadcggijaaWRepsOne
import Derived.Test.YtecaifadcggijaaWInv
import Derived.Test.YtecaifadcggijaaWInvWords
import Derived.Test.YtecaifadcggijaaWGuard
import Derived.Test.YtecaifadcggijaaWNEv
import Derived.Test.YtecaifadcggijaaWMore
import Derived.Test.YtecaifadcggijaaX0Mem
namespace Go.Proofs.Ytecaifadcggijaa.PPoolZ
open Go.RowKit Go.Proofs.YtecaifadcggijaaW.PrintWords Go.Proofs.YtecaifadcggijaaW.PrintLast Go.Proofs.YtecaifadcggijaaW.PrintMore
attribute [local go_sem] max2_int min2_int max_two min_two max_three min_three max_four min_four Go.IntKind.wrap_u8   -- for this text's walks alone
set_option linter.unusedVariables false
set_option linter.unusedSimpArgs false



def errW : Option Int → Value
  | none => .nilIface
  | some c => .iface 0 (.int .i64 c)
theorem errW_none : errW none = .nilIface := rfl
theorem errW_some (c : Int) : errW (some c) = .iface 0 (.int .i64 c) := rfl

-- the values' own types

end Go.Proofs.Ytecaifadcggijaa.PPoolZ
