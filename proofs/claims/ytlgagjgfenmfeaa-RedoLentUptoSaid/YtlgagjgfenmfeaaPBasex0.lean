-- Written by the kit's print.py, called by xprint.py (a helper of this repo); some functions are taken from texts of this seat that were proved by hand.
import Derived.Test.YtlgagjgfenmfeaaProg
import Derived.Below
import Derived.Deep.Draws
import Derived.Deep.AppendLies
import Derived.Maps.AppendAt
import Derived.OwnWalk
import Derived.Laws.BytesArg
import Derived.Laws.MakeOwn
import Derived.Laws.OwnMore
import Derived.Deep.OwnRows
import Derived.Tactics
import Derived.Lib.ConvBytes
import Derived.Laws.Slices
import Derived.WalkKit
import Derived.KernelRfl
import Derived.RowKit3
import Derived.Deep.LoopGhost
import Derived.Deep.QuietTactic
import Derived.BigQuiet
import Derived.WideLaws
import Derived.Deep.DeepCutAuto
import Derived.Deep.CutBlock
import Derived.Deep.RegionHeld3
import Derived.Laws.Rows
import Derived.Lib.AppendStr
import Derived.ArgAppend
import Derived.Laws.IdiomCopy
import Derived.OrdersHeld
import Derived.Laws.BitsLemmas
import Derived.RowKit
import Derived.Test.YtlgagjgfenmfeaaHUv
import Derived.Test.YtlgagjgfenmfeaaWWords
import Derived.Test.YtlgagjgfenmfeaaWLast
import Derived.Test.YtlgagjgfenmfeaaWTab
import Derived.Test.YtlgagjgfenmfeaaWFour
import Derived.Test.YtlgagjgfenmfeaaWQPut
import Derived.Test.YtlgagjgfenmfeaaWApart
import Derived.Test.YtlgagjgfenmfeaaWArr
import Derived.Test.YtlgagjgfenmfeaaWZeros
import Derived.Test.YtlgagjgfenmfeaaWFoot
import Derived.Test.YtlgagjgfenmfeaaWKept
import Derived.Test.YtlgagjgfenmfeaaWShare
import Derived.Test.YtlgagjgfenmfeaaWN
import Derived.Test.YtlgagjgfenmfeaaWFootNe
import Derived.Test.YtlgagjgfenmfeaaWAt
import Derived.Test.YtlgagjgfenmfeaaWEqStruct
import Derived.Test.YtlgagjgfenmfeaaWRepsOne
import Derived.Test.YtlgagjgfenmfeaaWInv
import Derived.Test.YtlgagjgfenmfeaaWInvWords
import Derived.Test.YtlgagjgfenmfeaaWGuard
import Derived.Test.YtlgagjgfenmfeaaWNEv
import Derived.Test.YtlgagjgfenmfeaaWMore
import Derived.Test.YtlgagjgfenmfeaaWSized
namespace Go.Proofs.Ytlgagjgfenmfeaa.PBase
open Go.RowKit Go.Proofs.Ytlgagjgfenmfeaa.HUv Go.Proofs.YtlgagjgfenmfeaaW.PrintWords Go.Proofs.YtlgagjgfenmfeaaW.PrintLast Go.Proofs.YtlgagjgfenmfeaaW.PrintMore
attribute [local go_sem] max2_int min2_int max_two min_two max_three min_three max_four min_four   -- for this text's walks alone
set_option linter.unusedVariables false
set_option linter.unusedSimpArgs false



def errW : Option Int → Value
  | none => .nilIface
  | some c => .iface 0 (.int .i64 c)
theorem errW_none : errW none = .nilIface := rfl
theorem errW_some (c : Int) : errW (some c) = .iface 0 (.int .i64 c) := rfl

theorem info5 : (Try.prog.info? 5).map (fun i => (i.zero, i.size, i.bytes)) = some (some (.int .u8 0), 1, 1) := by kernel_rfl
-- the values' own types

end Go.Proofs.Ytlgagjgfenmfeaa.PBase
