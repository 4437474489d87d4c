/- The program's readers of a key and of a row, in the shape that a print takes. -/
import Derived.Test.YtbekgkikgcmmaaaDoorHBitW
set_option linter.unusedVariables false
namespace Go.Proofs.YtbekgkikgcmmaaaDoor.HGiv
open Go.RowKit Go.Proofs.YtbekgkikgcmmaaaDoor.PBit Go.Proofs.YtbekgkikgcmmaaaDoor.HBase Go.Proofs.YtbekgkikgcmmaaaDoorW.PrintWords Go.Proofs.YtbekgkikgcmmaaaDoorW.PrintLast Go.Proofs.YtbekgkikgcmmaaaDoorW.PrintMore Go.Proofs.YtbekgkikgcmmaaaDoor.HCore

def bits_ReadKey.f (k : Nat) (a0 : ByteArray) : Option (List (S33) × Int) := HBitK.bits_ReadKey.f a0
theorem bits_ReadKey.mono : ∀ a0 k, LeO (bits_ReadKey.f k a0) (bits_ReadKey.f (k + 1) a0) := fun _ _ => LeO.refl _
theorem bits_ReadKey.calls (k : Nat) (a0 : ByteArray) (r1 : List (S33)) (r2 : Int) (w : World) (h : bits_ReadKey.f k a0 = some (r1, r2)) :
    Calls Tryd.prog 18 #[.string a0] w fun e w' => ∃ v0_ : Value, e = .returned (.tuple #[v0_, .int .i64 r2]) ∧ Kd.R k33 33 w' w.heap.size (fun _ => True) v0_ r1 ∧ Below w.heap.size w w' := HBitK.bits_ReadKey.calls a0 r1 r2 w h
def bits_ReadRow.f (k : Nat) (a0 : ByteArray) : Option (List (S33) × Int) := HBitW.bits_ReadRow.f a0
theorem bits_ReadRow.mono : ∀ a0 k, LeO (bits_ReadRow.f k a0) (bits_ReadRow.f (k + 1) a0) := fun _ _ => LeO.refl _
theorem bits_ReadRow.calls (k : Nat) (a0 : ByteArray) (r1 : List (S33)) (r2 : Int) (w : World) (h : bits_ReadRow.f k a0 = some (r1, r2)) :
    Calls Tryd.prog 20 #[.string a0] w fun e w' => ∃ v0_ : Value, e = .returned (.tuple #[v0_, .int .i64 r2]) ∧ Kd.R k33 33 w' w.heap.size (fun _ => True) v0_ r1 ∧ Below w.heap.size w w' := HBitW.bits_ReadRow.calls a0 r1 r2 w h
end Go.Proofs.YtbekgkikgcmmaaaDoor.HGiv
