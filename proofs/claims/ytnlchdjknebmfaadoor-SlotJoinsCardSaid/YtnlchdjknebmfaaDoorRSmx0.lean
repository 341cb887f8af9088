-- written by the kit's print program, called by wip/tools/myprint.sh, for the functions Sm
import Derived.Test.YtnlchdjknebmfaaDoorProg
import Derived.Below
import Derived.Deep.Draws
import Derived.Deep.AppendLies
import Derived.Maps.AppendAt
import Derived.OwnWalk
import Derived.Laws.BytesArg
import Derived.Laws.MakeOwn
import Derived.Laws.OwnMore
import Derived.Deep.OwnRows
import Derived.Tactics
import Derived.Lib.ConvBytes
import Derived.Laws.Slices
import Derived.WalkKit
import Derived.KernelRfl
import Derived.RowKit3
import Derived.Deep.LoopGhost
import Derived.Deep.QuietTactic
import Derived.BigQuiet
import Derived.WideLaws
import Derived.Deep.DeepCutAuto
import Derived.Deep.CutBlock
import Derived.Deep.RegionHeld3
import Derived.Laws.Rows
import Derived.Lib.AppendStr
import Derived.ArgAppend
import Derived.Laws.IdiomCopy
import Derived.OrdersHeld
import Derived.Laws.BitsLemmas
import Derived.RowKit
import Derived.Test.YtnlchdjknebmfaaDoorWWords
import Derived.Test.YtnlchdjknebmfaaDoorWLast
import Derived.Test.YtnlchdjknebmfaaDoorWTab
import Derived.Test.YtnlchdjknebmfaaDoorWFour
import Derived.Test.YtnlchdjknebmfaaDoorWQPut
import Derived.Test.YtnlchdjknebmfaaDoorWApart
import Derived.Test.YtnlchdjknebmfaaDoorWArr
import Derived.Test.YtnlchdjknebmfaaDoorWZeros
import Derived.Test.YtnlchdjknebmfaaDoorWFoot
import Derived.Test.YtnlchdjknebmfaaDoorWKept
import Derived.Test.YtnlchdjknebmfaaDoorWShare
import Derived.Test.YtnlchdjknebmfaaDoorWN
import Derived.Test.YtnlchdjknebmfaaDoorWFootNe
import Derived.Test.YtnlchdjknebmfaaDoorWAt
import Derived.Test.YtnlchdjknebmfaaDoorWEqStruct
import Derived.Test.YtnlchdjknebmfaaDoorWRepsOne
import Derived.Test.YtnlchdjknebmfaaDoorWInv
import Derived.Test.YtnlchdjknebmfaaDoorWInvWords
import Derived.Test.YtnlchdjknebmfaaDoorWGuard
import Derived.Test.YtnlchdjknebmfaaDoorWNEv
import Derived.Test.YtnlchdjknebmfaaDoorWMore
namespace Go.Proofs.YtnlchdjknebmfaaDoor.RSm
open Go.RowKit Go.Proofs.YtnlchdjknebmfaaDoorW.PrintWords Go.Proofs.YtnlchdjknebmfaaDoorW.PrintLast Go.Proofs.YtnlchdjknebmfaaDoorW.PrintMore
attribute [local go_sem] max2_int min2_int max_two min_two max_three min_three max_four min_four   -- for this text's walks alone
set_option linter.unusedVariables false
set_option linter.unusedSimpArgs false



def errW : Option Int → Value
  | none => .nilIface
  | some c => .iface 0 (.int .i64 c)
theorem errW_none : errW none = .nilIface := rfl
theorem errW_some (c : Int) : errW (some c) = .iface 0 (.int .i64 c) := rfl

-- the values' own types

end Go.Proofs.YtnlchdjknebmfaaDoor.RSm
