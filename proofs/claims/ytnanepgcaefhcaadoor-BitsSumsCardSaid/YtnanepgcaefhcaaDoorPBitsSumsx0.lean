-- Written by the kit's print.py, called by xprint.py (a helper of this repo); some functions are taken from texts of this seat that were proved by hand.
import Derived.Test.YtnanepgcaefhcaaDoorProg
import Derived.Below
import Derived.Deep.Draws
import Derived.Deep.AppendLies
import Derived.Maps.AppendAt
import Derived.OwnWalk
import Derived.Laws.BytesArg
import Derived.Laws.MakeOwn
import Derived.Laws.OwnMore
import Derived.Deep.OwnRows
import Derived.Tactics
import Derived.Lib.ConvBytes
import Derived.Laws.Slices
import Derived.WalkKit
import Derived.KernelRfl
import Derived.RowKit3
import Derived.Deep.LoopGhost
import Derived.Deep.QuietTactic
import Derived.BigQuiet
import Derived.WideLaws
import Derived.Deep.DeepCutAuto
import Derived.Deep.CutBlock
import Derived.Deep.RegionHeld3
import Derived.Laws.Rows
import Derived.Lib.AppendStr
import Derived.ArgAppend
import Derived.Laws.IdiomCopy
import Derived.OrdersHeld
import Derived.Laws.BitsLemmas
import Derived.RowKit
import Derived.Test.YtnanepgcaefhcaaDoorHRComb
import Derived.Test.YtnanepgcaefhcaaDoorHSum
import Derived.Test.YtnanepgcaefhcaaDoorWWords
import Derived.Test.YtnanepgcaefhcaaDoorWLast
import Derived.Test.YtnanepgcaefhcaaDoorWTab
import Derived.Test.YtnanepgcaefhcaaDoorWFour
import Derived.Test.YtnanepgcaefhcaaDoorWQPut
import Derived.Test.YtnanepgcaefhcaaDoorWApart
import Derived.Test.YtnanepgcaefhcaaDoorWArr
import Derived.Test.YtnanepgcaefhcaaDoorWZeros
import Derived.Test.YtnanepgcaefhcaaDoorWFoot
import Derived.Test.YtnanepgcaefhcaaDoorWKept
import Derived.Test.YtnanepgcaefhcaaDoorWShare
import Derived.Test.YtnanepgcaefhcaaDoorWN
import Derived.Test.YtnanepgcaefhcaaDoorWFootNe
import Derived.Test.YtnanepgcaefhcaaDoorWAt
import Derived.Test.YtnanepgcaefhcaaDoorWEqStruct
import Derived.Test.YtnanepgcaefhcaaDoorWRepsOne
import Derived.Test.YtnanepgcaefhcaaDoorWInv
import Derived.Test.YtnanepgcaefhcaaDoorWInvWords
import Derived.Test.YtnanepgcaefhcaaDoorWGuard
import Derived.Test.YtnanepgcaefhcaaDoorWNEv
import Derived.Test.YtnanepgcaefhcaaDoorWMore
import Derived.Test.YtnanepgcaefhcaaDoorWSized
namespace Go.Proofs.YtnanepgcaefhcaaDoor.PBitsSums
open Go.RowKit Go.Proofs.YtnanepgcaefhcaaDoor.HRComb Go.Proofs.YtnanepgcaefhcaaDoor.HSum Go.Proofs.YtnanepgcaefhcaaDoorW.PrintWords Go.Proofs.YtnanepgcaefhcaaDoorW.PrintLast Go.Proofs.YtnanepgcaefhcaaDoorW.PrintMore
attribute [local go_sem] max2_int min2_int max_two min_two max_three min_three max_four min_four   -- for this text's walks alone
set_option linter.unusedVariables false
set_option linter.unusedSimpArgs false



def errW : Option Int → Value
  | none => .nilIface
  | some c => .iface 0 (.int .i64 c)
theorem errW_none : errW none = .nilIface := rfl
theorem errW_some (c : Int) : errW (some c) = .iface 0 (.int .i64 c) := rfl

theorem info9 : (Tryd.prog.info? 9).map (fun i => (i.zero, i.size, i.bytes)) = some (some (.string ⟨#[]⟩), 1, 16) := by kernel_rfl
-- the values' own types

end Go.Proofs.YtnanepgcaefhcaaDoor.PBitsSums
