-- Written by the kit's print.py, called by xprint.py (a helper of this repo); some functions are taken from texts of this seat that were proved by hand.
import Derived.Test.YtdepngppnbobdaaProg
import Derived.Below
import Derived.Deep.Draws
import Derived.Deep.AppendLies
import Derived.Maps.AppendAt
import Derived.OwnWalk
import Derived.Laws.BytesArg
import Derived.Laws.MakeOwn
import Derived.Laws.OwnMore
import Derived.Deep.OwnRows
import Derived.Tactics
import Derived.Lib.ConvBytes
import Derived.Laws.Slices
import Derived.WalkKit
import Derived.KernelRfl
import Derived.RowKit3
import Derived.Deep.LoopGhost
import Derived.Deep.QuietTactic
import Derived.BigQuiet
import Derived.WideLaws
import Derived.Deep.DeepCutAuto
import Derived.Deep.CutBlock
import Derived.Deep.RegionHeld3
import Derived.Laws.Rows
import Derived.Lib.AppendStr
import Derived.ArgAppend
import Derived.Laws.IdiomCopy
import Derived.OrdersHeld
import Derived.Laws.BitsLemmas
import Derived.RowKit
import Derived.Test.YtdepngppnbobdaaHUv
import Derived.Test.YtdepngppnbobdaaWWords
import Derived.Test.YtdepngppnbobdaaWLast
import Derived.Test.YtdepngppnbobdaaWTab
import Derived.Test.YtdepngppnbobdaaWFour
import Derived.Test.YtdepngppnbobdaaWQPut
import Derived.Test.YtdepngppnbobdaaWApart
import Derived.Test.YtdepngppnbobdaaWArr
import Derived.Test.YtdepngppnbobdaaWZeros
import Derived.Test.YtdepngppnbobdaaWFoot
import Derived.Test.YtdepngppnbobdaaWKept
import Derived.Test.YtdepngppnbobdaaWShare
import Derived.Test.YtdepngppnbobdaaWN
import Derived.Test.YtdepngppnbobdaaWFootNe
import Derived.Test.YtdepngppnbobdaaWAt
import Derived.Test.YtdepngppnbobdaaWEqStruct
import Derived.Test.YtdepngppnbobdaaWRepsOne
import Derived.Test.YtdepngppnbobdaaWInv
import Derived.Test.YtdepngppnbobdaaWInvWords
import Derived.Test.YtdepngppnbobdaaWGuard
import Derived.Test.YtdepngppnbobdaaWNEv
import Derived.Test.YtdepngppnbobdaaWMore
import Derived.Test.YtdepngppnbobdaaWSized
namespace Go.Proofs.Ytdepngppnbobdaa.PBase
open Go.RowKit Go.Proofs.Ytdepngppnbobdaa.HUv Go.Proofs.YtdepngppnbobdaaW.PrintWords Go.Proofs.YtdepngppnbobdaaW.PrintLast Go.Proofs.YtdepngppnbobdaaW.PrintMore
attribute [local go_sem] max2_int min2_int max_two min_two max_three min_three max_four min_four   -- for this text's walks alone
set_option linter.unusedVariables false
set_option linter.unusedSimpArgs false



def errW : Option Int → Value
  | none => .nilIface
  | some c => .iface 0 (.int .i64 c)
theorem errW_none : errW none = .nilIface := rfl
theorem errW_some (c : Int) : errW (some c) = .iface 0 (.int .i64 c) := rfl

theorem info5 : (Try.prog.info? 5).map (fun i => (i.zero, i.size, i.bytes)) = some (some (.int .u8 0), 1, 1) := by kernel_rfl
-- the values' own types

end Go.Proofs.Ytdepngppnbobdaa.PBase
