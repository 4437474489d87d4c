-- Written by the kit's print.py, called by xprint.py (a helper of this repo); some functions are taken from texts of this seat that were proved by hand.
import Derived.Test.YtjggkopmhhhiiaaGreatDoorProg
import Derived.Below
import Derived.Deep.Draws
import Derived.Deep.AppendLies
import Derived.Maps.AppendAt
import Derived.OwnWalk
import Derived.Laws.BytesArg
import Derived.Laws.MakeOwn
import Derived.Laws.OwnMore
import Derived.Deep.OwnRows
import Derived.Tactics
import Derived.Lib.ConvBytes
import Derived.Laws.Slices
import Derived.WalkKit
import Derived.KernelRfl
import Derived.RowKit3
import Derived.Deep.LoopGhost
import Derived.Deep.QuietTactic
import Derived.BigQuiet
import Derived.WideLaws
import Derived.Deep.DeepCutAuto
import Derived.Deep.CutBlock
import Derived.Deep.RegionHeld3
import Derived.Laws.Rows
import Derived.Lib.AppendStr
import Derived.ArgAppend
import Derived.Laws.IdiomCopy
import Derived.OrdersHeld
import Derived.Laws.BitsLemmas
import Derived.RowKit
import Derived.Test.YtjggkopmhhhiiaaGreatDoorWWords
import Derived.Test.YtjggkopmhhhiiaaGreatDoorWLast
import Derived.Test.YtjggkopmhhhiiaaGreatDoorWTab
import Derived.Test.YtjggkopmhhhiiaaGreatDoorWFour
import Derived.Test.YtjggkopmhhhiiaaGreatDoorWQPut
import Derived.Test.YtjggkopmhhhiiaaGreatDoorWApart
import Derived.Test.YtjggkopmhhhiiaaGreatDoorWArr
import Derived.Test.YtjggkopmhhhiiaaGreatDoorWZeros
import Derived.Test.YtjggkopmhhhiiaaGreatDoorWFoot
import Derived.Test.YtjggkopmhhhiiaaGreatDoorWKept
import Derived.Test.YtjggkopmhhhiiaaGreatDoorWShare
import Derived.Test.YtjggkopmhhhiiaaGreatDoorWN
import Derived.Test.YtjggkopmhhhiiaaGreatDoorWFootNe
import Derived.Test.YtjggkopmhhhiiaaGreatDoorWAt
import Derived.Test.YtjggkopmhhhiiaaGreatDoorWEqStruct
import Derived.Test.YtjggkopmhhhiiaaGreatDoorWRepsOne
import Derived.Test.YtjggkopmhhhiiaaGreatDoorWInv
import Derived.Test.YtjggkopmhhhiiaaGreatDoorWInvWords
import Derived.Test.YtjggkopmhhhiiaaGreatDoorWGuard
import Derived.Test.YtjggkopmhhhiiaaGreatDoorWNEv
import Derived.Test.YtjggkopmhhhiiaaGreatDoorWMore
import Derived.Test.YtjggkopmhhhiiaaGreatDoorWSized
namespace Go.Proofs.YtjggkopmhhhiiaaGreatDoor.PSm
open Go.RowKit Go.Proofs.YtjggkopmhhhiiaaGreatDoorW.PrintWords Go.Proofs.YtjggkopmhhhiiaaGreatDoorW.PrintLast Go.Proofs.YtjggkopmhhhiiaaGreatDoorW.PrintMore
attribute [local go_sem] max2_int min2_int max_two min_two max_three min_three max_four min_four   -- for this text's walks alone
set_option linter.unusedVariables false
set_option linter.unusedSimpArgs false



def errW : Option Int → Value
  | none => .nilIface
  | some c => .iface 0 (.int .i64 c)
theorem errW_none : errW none = .nilIface := rfl
theorem errW_some (c : Int) : errW (some c) = .iface 0 (.int .i64 c) := rfl

theorem info3 : (Tryz.prog.info? 3).map (fun i => (i.zero, i.size, i.bytes)) = some (some (.int .i64 0), 1, 8) := by kernel_rfl
-- the values' own types

end Go.Proofs.YtjggkopmhhhiiaaGreatDoor.PSm
