/- Functions of the program and of the reference, each with its walk: written by a program of this session out of the translation. -/
import Derived.Test.YtppbocpmahhciaaKit
import Derived.LoopTactic
import Derived.Shelf.Abstract
import Derived.StillTailTactics
import Derived.Test.YtppbocpmahhciaaProg
import Derived.Below
import Derived.Deep.Draws
import Derived.Deep.AppendLies
import Derived.Maps.AppendAt
import Derived.OwnWalk
import Derived.Laws.BytesArg
import Derived.Laws.MakeOwn
import Derived.Laws.OwnMore
import Derived.Deep.OwnRows
import Derived.Tactics
import Derived.Lib.ConvBytes
import Derived.Laws.Slices
import Derived.WalkKit
import Derived.KernelRfl
import Derived.RowKit3
import Derived.Deep.LoopGhost
import Derived.Deep.QuietTactic
import Derived.BigQuiet
import Derived.WideLaws
import Derived.Deep.DeepCutAuto
import Derived.Deep.CutBlock
import Derived.Deep.RegionHeld3
import Derived.Laws.Rows
import Derived.Lib.AppendStr
import Derived.ArgAppend
import Derived.Laws.IdiomCopy
import Derived.OrdersHeld
import Derived.Laws.BitsLemmas
import Derived.RowKit
import Derived.Test.YtppbocpmahhciaaWWords
import Derived.Test.YtppbocpmahhciaaWLast
import Derived.Test.YtppbocpmahhciaaWTab
import Derived.Test.YtppbocpmahhciaaWFour
import Derived.Test.YtppbocpmahhciaaWQPut
import Derived.Test.YtppbocpmahhciaaWApart
import Derived.Test.YtppbocpmahhciaaWArr
import Derived.Test.YtppbocpmahhciaaWZeros
import Derived.Test.YtppbocpmahhciaaWFoot
import Derived.Test.YtppbocpmahhciaaWKept
import Derived.Test.YtppbocpmahhciaaWShare
import Derived.Test.YtppbocpmahhciaaWN
import Derived.Test.YtppbocpmahhciaaWFootNe
import Derived.Test.YtppbocpmahhciaaWAt
import Derived.Test.YtppbocpmahhciaaWEqStruct
import Derived.Test.YtppbocpmahhciaaWRepsOne
import Derived.Test.YtppbocpmahhciaaWInv
import Derived.Test.YtppbocpmahhciaaWInvWords
import Derived.Test.YtppbocpmahhciaaWGuard
import Derived.Test.YtppbocpmahhciaaWNEv
import Derived.Test.YtppbocpmahhciaaWMore
namespace Go.Proofs.Ytppbocpmahhciaa.PFnSmoothHolds
open Go.RowKit Go.Proofs.YtppbocpmahhciaaW.PrintWords Go.Proofs.YtppbocpmahhciaaW.PrintLast Go.Proofs.YtppbocpmahhciaaW.PrintMore
attribute [local go_sem] max2_int min2_int max_two min_two max_three min_three max_four min_four   -- for this text's walks alone
set_option linter.unusedVariables false
set_option linter.unusedSimpArgs false



def errW : Option Int → Value
  | none => .nilIface
  | some c => .iface 0 (.int .i64 c)
theorem errW_none : errW none = .nilIface := rfl
theorem errW_some (c : Int) : errW (some c) = .iface 0 (.int .i64 c) := rfl

theorem info2 : (Try.prog.info? 2).map (fun i => (i.zero, i.size, i.bytes)) = some (some (.int .i64 0), 1, 8) := by kernel_rfl
-- the values' own types

end Go.Proofs.Ytppbocpmahhciaa.PFnSmoothHolds
