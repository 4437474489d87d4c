-- Written by the kit's print.py, called by xprint.py (a helper of this repo); some functions are taken from texts of this seat that were proved by hand.
import Derived.Test.YtbekgkikgcmmaaaDoorHBitGv
import Derived.Test.YtbekgkikgcmmaaaDoorHBitM
import Derived.Test.YtbekgkikgcmmaaaDoorPBitx0
import Derived.Test.YtbekgkikgcmmaaaDoorPBitx1
import Derived.Test.YtbekgkikgcmmaaaDoorPBitx8
import Derived.Test.YtbekgkikgcmmaaaDoorPBitx9
import Derived.Test.YtbekgkikgcmmaaaDoorProg
import Derived.Below
import Derived.Deep.Draws
import Derived.Deep.AppendLies
import Derived.Maps.AppendAt
import Derived.OwnWalk
import Derived.Laws.BytesArg
import Derived.Laws.MakeOwn
import Derived.Laws.OwnMore
import Derived.Deep.OwnRows
import Derived.Tactics
import Derived.Lib.ConvBytes
import Derived.Laws.Slices
import Derived.WalkKit
import Derived.KernelRfl
import Derived.RowKit3
import Derived.Deep.LoopGhost
import Derived.Deep.QuietTactic
import Derived.BigQuiet
import Derived.WideLaws
import Derived.Deep.DeepCutAuto
import Derived.Deep.CutBlock
import Derived.Deep.RegionHeld3
import Derived.Laws.Rows
import Derived.Lib.AppendStr
import Derived.ArgAppend
import Derived.Laws.IdiomCopy
import Derived.OrdersHeld
import Derived.Laws.BitsLemmas
import Derived.RowKit
import Derived.Test.YtbekgkikgcmmaaaDoorHStr
import Derived.Test.YtbekgkikgcmmaaaDoorHBase
import Derived.Test.YtbekgkikgcmmaaaDoorHUv
import Derived.Test.YtbekgkikgcmmaaaDoorWWords
import Derived.Test.YtbekgkikgcmmaaaDoorWLast
import Derived.Test.YtbekgkikgcmmaaaDoorWTab
import Derived.Test.YtbekgkikgcmmaaaDoorWFour
import Derived.Test.YtbekgkikgcmmaaaDoorWQPut
import Derived.Test.YtbekgkikgcmmaaaDoorWApart
import Derived.Test.YtbekgkikgcmmaaaDoorWArr
import Derived.Test.YtbekgkikgcmmaaaDoorWZeros
import Derived.Test.YtbekgkikgcmmaaaDoorWFoot
import Derived.Test.YtbekgkikgcmmaaaDoorWKept
import Derived.Test.YtbekgkikgcmmaaaDoorWShare
import Derived.Test.YtbekgkikgcmmaaaDoorWN
import Derived.Test.YtbekgkikgcmmaaaDoorWFootNe
import Derived.Test.YtbekgkikgcmmaaaDoorWAt
import Derived.Test.YtbekgkikgcmmaaaDoorWEqStruct
import Derived.Test.YtbekgkikgcmmaaaDoorWRepsOne
import Derived.Test.YtbekgkikgcmmaaaDoorWInv
import Derived.Test.YtbekgkikgcmmaaaDoorWInvWords
import Derived.Test.YtbekgkikgcmmaaaDoorWGuard
import Derived.Test.YtbekgkikgcmmaaaDoorWNEv
import Derived.Test.YtbekgkikgcmmaaaDoorWMore
import Derived.Test.YtbekgkikgcmmaaaDoorWSized
namespace Go.Proofs.YtbekgkikgcmmaaaDoor.PGiv
open Go.RowKit Go.Proofs.YtbekgkikgcmmaaaDoor.HBitE Go.Proofs.YtbekgkikgcmmaaaDoor.HGiv Go.Proofs.YtbekgkikgcmmaaaDoor.HGx Go.Proofs.YtbekgkikgcmmaaaDoor.PBit Go.Proofs.YtbekgkikgcmmaaaDoor.HBase Go.Proofs.YtbekgkikgcmmaaaDoor.HUv Go.Proofs.YtbekgkikgcmmaaaDoorW.PrintWords Go.Proofs.YtbekgkikgcmmaaaDoorW.PrintLast Go.Proofs.YtbekgkikgcmmaaaDoorW.PrintMore
attribute [local go_sem] max2_int min2_int max_two min_two max_three min_three max_four min_four   -- for this text's walks alone
set_option linter.unusedVariables false
set_option linter.unusedSimpArgs false




-- the values' own types
/-! #### struct type 33 -/
theorem k33_mkF (W : World) (ok : Nat → Prop) (x : S33) : Kd.FK k33 W ok x [.int .i64 x.f0, .int .i64 x.f1, .string x.f2] := fun W2 _ => k33_mk W2 x

def rd_L4 (xs : List (List S33)) (i : Int) : (List S33) := xs.getD i.toNat ([] : List S33)
theorem at_L4 {w : World} {A : Option Addr} {n : Nat} {xs : List (List S33)} (h : Kd.C (Kd.slice 33 k33) w A n xs) (i : Int) (h0 : 0 ≤ i) (h1 : i < n) : ∃ ad A0 c0, A = some ad ∧ w.cell? (ad.add i.toNat) = some (.slice A0 (rd_L4 xs i).length c0) ∧ (rd_L4 xs i).length ≤ c0 ∧ k33.C w A0 (rd_L4 xs i).length (rd_L4 xs i) := by
  obtain ⟨ad, c, e, _, hK, hc0⟩ := Kd.C_get h ([] : List S33) i h0 h1
  have hc : ∀ j u, c[j]? = some u → w.cell? (ad.add (i.toNat * 1 + j)) = some u := hc0
  obtain ⟨A0, c0, rfl, l0, g0⟩ := hK
  exact ⟨ad, A0, c0, e, by have hq := hc 0 _ rfl; rwa [Nat.mul_one, Nat.add_zero] at hq, l0, g0⟩

end Go.Proofs.YtbekgkikgcmmaaaDoor.PGiv
