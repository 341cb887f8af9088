-- written by the kit's print program, called by wip/tools/myprint.sh, for the functions R04
import Derived.Test.YtpbiohnmmngccaaDoorProg
import Derived.Below
import Derived.Deep.Draws
import Derived.Deep.AppendLies
import Derived.Maps.AppendAt
import Derived.OwnWalk
import Derived.Laws.BytesArg
import Derived.Laws.MakeOwn
import Derived.Laws.OwnMore
import Derived.Deep.OwnRows
import Derived.Tactics
import Derived.Lib.ConvBytes
import Derived.Laws.Slices
import Derived.WalkKit
import Derived.KernelRfl
import Derived.RowKit3
import Derived.Deep.LoopGhost
import Derived.Deep.QuietTactic
import Derived.BigQuiet
import Derived.WideLaws
import Derived.Deep.DeepCutAuto
import Derived.Deep.CutBlock
import Derived.Deep.RegionHeld3
import Derived.Laws.Rows
import Derived.Lib.AppendStr
import Derived.ArgAppend
import Derived.Laws.IdiomCopy
import Derived.OrdersHeld
import Derived.Laws.BitsLemmas
import Derived.RowKit
import Derived.Test.YtpbiohnmmngccaaDoorWWords
import Derived.Test.YtpbiohnmmngccaaDoorWLast
import Derived.Test.YtpbiohnmmngccaaDoorWTab
import Derived.Test.YtpbiohnmmngccaaDoorWFour
import Derived.Test.YtpbiohnmmngccaaDoorWQPut
import Derived.Test.YtpbiohnmmngccaaDoorWApart
import Derived.Test.YtpbiohnmmngccaaDoorWArr
import Derived.Test.YtpbiohnmmngccaaDoorWZeros
import Derived.Test.YtpbiohnmmngccaaDoorWFoot
import Derived.Test.YtpbiohnmmngccaaDoorWKept
import Derived.Test.YtpbiohnmmngccaaDoorWShare
import Derived.Test.YtpbiohnmmngccaaDoorWN
import Derived.Test.YtpbiohnmmngccaaDoorWFootNe
import Derived.Test.YtpbiohnmmngccaaDoorWAt
import Derived.Test.YtpbiohnmmngccaaDoorWEqStruct
import Derived.Test.YtpbiohnmmngccaaDoorWRepsOne
import Derived.Test.YtpbiohnmmngccaaDoorWInv
import Derived.Test.YtpbiohnmmngccaaDoorWInvWords
import Derived.Test.YtpbiohnmmngccaaDoorWGuard
import Derived.Test.YtpbiohnmmngccaaDoorWNEv
import Derived.Test.YtpbiohnmmngccaaDoorWMore
namespace Go.Proofs.YtpbiohnmmngccaaDoor.RR04
open Go.RowKit Go.Proofs.YtpbiohnmmngccaaDoorW.PrintWords Go.Proofs.YtpbiohnmmngccaaDoorW.PrintLast Go.Proofs.YtpbiohnmmngccaaDoorW.PrintMore
attribute [local go_sem] max2_int min2_int max_two min_two max_three min_three max_four min_four   -- for this text's walks alone
set_option linter.unusedVariables false
set_option linter.unusedSimpArgs false



def errW : Option Int → Value
  | none => .nilIface
  | some c => .iface 0 (.int .i64 c)
theorem errW_none : errW none = .nilIface := rfl
theorem errW_some (c : Int) : errW (some c) = .iface 0 (.int .i64 c) := rfl

theorem info5 : (Tryd.prog.info? 5).map (fun i => (i.zero, i.size, i.bytes)) = some (some (.int .u8 0), 1, 1) := by kernel_rfl
-- the values' own types

end Go.Proofs.YtpbiohnmmngccaaDoor.RR04
