-- Written by the kit's print.py, called by xprint.py (a helper of this repo); some functions are taken from texts of this seat that were proved by hand.
import Derived.Test.YtdepngppnbobdaaDoorProg
import Derived.Below
import Derived.Deep.Draws
import Derived.Deep.AppendLies
import Derived.Maps.AppendAt
import Derived.OwnWalk
import Derived.Laws.BytesArg
import Derived.Laws.MakeOwn
import Derived.Laws.OwnMore
import Derived.Deep.OwnRows
import Derived.Tactics
import Derived.Lib.ConvBytes
import Derived.Laws.Slices
import Derived.WalkKit
import Derived.KernelRfl
import Derived.RowKit3
import Derived.Deep.LoopGhost
import Derived.Deep.QuietTactic
import Derived.BigQuiet
import Derived.WideLaws
import Derived.Deep.DeepCutAuto
import Derived.Deep.CutBlock
import Derived.Deep.RegionHeld3
import Derived.Laws.Rows
import Derived.Lib.AppendStr
import Derived.ArgAppend
import Derived.Laws.IdiomCopy
import Derived.OrdersHeld
import Derived.Laws.BitsLemmas
import Derived.RowKit
import Derived.Test.YtdepngppnbobdaaDoorWWords
import Derived.Test.YtdepngppnbobdaaDoorWLast
import Derived.Test.YtdepngppnbobdaaDoorWTab
import Derived.Test.YtdepngppnbobdaaDoorWFour
import Derived.Test.YtdepngppnbobdaaDoorWQPut
import Derived.Test.YtdepngppnbobdaaDoorWApart
import Derived.Test.YtdepngppnbobdaaDoorWArr
import Derived.Test.YtdepngppnbobdaaDoorWZeros
import Derived.Test.YtdepngppnbobdaaDoorWFoot
import Derived.Test.YtdepngppnbobdaaDoorWKept
import Derived.Test.YtdepngppnbobdaaDoorWShare
import Derived.Test.YtdepngppnbobdaaDoorWN
import Derived.Test.YtdepngppnbobdaaDoorWFootNe
import Derived.Test.YtdepngppnbobdaaDoorWAt
import Derived.Test.YtdepngppnbobdaaDoorWEqStruct
import Derived.Test.YtdepngppnbobdaaDoorWRepsOne
import Derived.Test.YtdepngppnbobdaaDoorWInv
import Derived.Test.YtdepngppnbobdaaDoorWInvWords
import Derived.Test.YtdepngppnbobdaaDoorWGuard
import Derived.Test.YtdepngppnbobdaaDoorWNEv
import Derived.Test.YtdepngppnbobdaaDoorWMore
import Derived.Test.YtdepngppnbobdaaDoorWSized
namespace Go.Proofs.YtdepngppnbobdaaDoor.PFm
open Go.RowKit Go.Proofs.YtdepngppnbobdaaDoorW.PrintWords Go.Proofs.YtdepngppnbobdaaDoorW.PrintLast Go.Proofs.YtdepngppnbobdaaDoorW.PrintMore
attribute [local go_sem] max2_int min2_int max_two min_two max_three min_three max_four min_four   -- for this text's walks alone
set_option linter.unusedVariables false
set_option linter.unusedSimpArgs false



def errW : Option Int → Value
  | none => .nilIface
  | some c => .iface 0 (.int .i64 c)
theorem errW_none : errW none = .nilIface := rfl
theorem errW_some (c : Int) : errW (some c) = .iface 0 (.int .i64 c) := rfl

-- the values' own types

end Go.Proofs.YtdepngppnbobdaaDoor.PFm
