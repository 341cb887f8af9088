-- written by the kit's print program, called by wip/tools/myprint.sh, for the functions Num
import Derived.Test.YtohdidcdeoannaaDoorProg
import Derived.Below
import Derived.Deep.Draws
import Derived.Deep.AppendLies
import Derived.Maps.AppendAt
import Derived.OwnWalk
import Derived.Laws.BytesArg
import Derived.Laws.MakeOwn
import Derived.Laws.OwnMore
import Derived.Deep.OwnRows
import Derived.Tactics
import Derived.Lib.ConvBytes
import Derived.Laws.Slices
import Derived.WalkKit
import Derived.KernelRfl
import Derived.RowKit3
import Derived.Deep.LoopGhost
import Derived.Deep.QuietTactic
import Derived.BigQuiet
import Derived.WideLaws
import Derived.Deep.DeepCutAuto
import Derived.Deep.CutBlock
import Derived.Deep.RegionHeld3
import Derived.Laws.Rows
import Derived.Lib.AppendStr
import Derived.ArgAppend
import Derived.Laws.IdiomCopy
import Derived.OrdersHeld
import Derived.Laws.BitsLemmas
import Derived.RowKit
import Derived.Test.YtohdidcdeoannaaDoorWWords
import Derived.Test.YtohdidcdeoannaaDoorWLast
import Derived.Test.YtohdidcdeoannaaDoorWTab
import Derived.Test.YtohdidcdeoannaaDoorWFour
import Derived.Test.YtohdidcdeoannaaDoorWQPut
import Derived.Test.YtohdidcdeoannaaDoorWApart
import Derived.Test.YtohdidcdeoannaaDoorWArr
import Derived.Test.YtohdidcdeoannaaDoorWZeros
import Derived.Test.YtohdidcdeoannaaDoorWFoot
import Derived.Test.YtohdidcdeoannaaDoorWKept
import Derived.Test.YtohdidcdeoannaaDoorWShare
import Derived.Test.YtohdidcdeoannaaDoorWN
import Derived.Test.YtohdidcdeoannaaDoorWFootNe
import Derived.Test.YtohdidcdeoannaaDoorWAt
import Derived.Test.YtohdidcdeoannaaDoorWEqStruct
import Derived.Test.YtohdidcdeoannaaDoorWRepsOne
import Derived.Test.YtohdidcdeoannaaDoorWInv
import Derived.Test.YtohdidcdeoannaaDoorWInvWords
import Derived.Test.YtohdidcdeoannaaDoorWGuard
import Derived.Test.YtohdidcdeoannaaDoorWNEv
import Derived.Test.YtohdidcdeoannaaDoorWMore
namespace Go.Proofs.YtohdidcdeoannaaDoor.RNum
open Go.RowKit Go.Proofs.YtohdidcdeoannaaDoorW.PrintWords Go.Proofs.YtohdidcdeoannaaDoorW.PrintLast Go.Proofs.YtohdidcdeoannaaDoorW.PrintMore
attribute [local go_sem] max2_int min2_int max_two min_two max_three min_three max_four min_four   -- for this text's walks alone
set_option linter.unusedVariables false
set_option linter.unusedSimpArgs false



def errW : Option Int → Value
  | none => .nilIface
  | some c => .iface 0 (.int .i64 c)
theorem errW_none : errW none = .nilIface := rfl
theorem errW_some (c : Int) : errW (some c) = .iface 0 (.int .i64 c) := rfl

theorem info5 : (Tryd.prog.info? 5).map (fun i => (i.zero, i.size, i.bytes)) = some (some (.int .u8 0), 1, 1) := by kernel_rfl
-- the values' own types

end Go.Proofs.YtohdidcdeoannaaDoor.RNum
