-- written by the kit's print program, called by wip/tools/myprint.sh, for the functions R04
import Derived.Test.YtnccoopefajohaaDoorProg
import Derived.Below
import Derived.Deep.Draws
import Derived.Deep.AppendLies
import Derived.Maps.AppendAt
import Derived.OwnWalk
import Derived.Laws.BytesArg
import Derived.Laws.MakeOwn
import Derived.Laws.OwnMore
import Derived.Deep.OwnRows
import Derived.Tactics
import Derived.Lib.ConvBytes
import Derived.Laws.Slices
import Derived.WalkKit
import Derived.KernelRfl
import Derived.RowKit3
import Derived.Deep.LoopGhost
import Derived.Deep.QuietTactic
import Derived.BigQuiet
import Derived.WideLaws
import Derived.Deep.DeepCutAuto
import Derived.Deep.CutBlock
import Derived.Deep.RegionHeld3
import Derived.Laws.Rows
import Derived.Lib.AppendStr
import Derived.ArgAppend
import Derived.Laws.IdiomCopy
import Derived.OrdersHeld
import Derived.Laws.BitsLemmas
import Derived.RowKit
import Derived.Test.YtnccoopefajohaaDoorWWords
import Derived.Test.YtnccoopefajohaaDoorWLast
import Derived.Test.YtnccoopefajohaaDoorWTab
import Derived.Test.YtnccoopefajohaaDoorWFour
import Derived.Test.YtnccoopefajohaaDoorWQPut
import Derived.Test.YtnccoopefajohaaDoorWApart
import Derived.Test.YtnccoopefajohaaDoorWArr
import Derived.Test.YtnccoopefajohaaDoorWZeros
import Derived.Test.YtnccoopefajohaaDoorWFoot
import Derived.Test.YtnccoopefajohaaDoorWKept
import Derived.Test.YtnccoopefajohaaDoorWShare
import Derived.Test.YtnccoopefajohaaDoorWN
import Derived.Test.YtnccoopefajohaaDoorWFootNe
import Derived.Test.YtnccoopefajohaaDoorWAt
import Derived.Test.YtnccoopefajohaaDoorWEqStruct
import Derived.Test.YtnccoopefajohaaDoorWRepsOne
import Derived.Test.YtnccoopefajohaaDoorWInv
import Derived.Test.YtnccoopefajohaaDoorWInvWords
import Derived.Test.YtnccoopefajohaaDoorWGuard
import Derived.Test.YtnccoopefajohaaDoorWNEv
import Derived.Test.YtnccoopefajohaaDoorWMore
namespace Go.Proofs.YtnccoopefajohaaDoor.RR04
open Go.RowKit Go.Proofs.YtnccoopefajohaaDoorW.PrintWords Go.Proofs.YtnccoopefajohaaDoorW.PrintLast Go.Proofs.YtnccoopefajohaaDoorW.PrintMore
attribute [local go_sem] max2_int min2_int max_two min_two max_three min_three max_four min_four   -- for this text's walks alone
set_option linter.unusedVariables false
set_option linter.unusedSimpArgs false



def errW : Option Int → Value
  | none => .nilIface
  | some c => .iface 0 (.int .i64 c)
theorem errW_none : errW none = .nilIface := rfl
theorem errW_some (c : Int) : errW (some c) = .iface 0 (.int .i64 c) := rfl

theorem info5 : (Tryd.prog.info? 5).map (fun i => (i.zero, i.size, i.bytes)) = some (some (.int .u8 0), 1, 1) := by kernel_rfl
-- the values' own types

end Go.Proofs.YtnccoopefajohaaDoor.RR04
