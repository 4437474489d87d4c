/- The contracts of layer 1's functions that read and write numbers, and of the document's own, each with one plain function: out of the printed contracts and the plain laws. -/
import Derived.Test.YtdepngppnbobdaaDoorHBaseL
set_option linter.unusedVariables false
namespace Go.Proofs.YtdepngppnbobdaaDoor.HBase
open Go.RowKit Go.Proofs.YtdepngppnbobdaaDoorW.PrintWords Go.Proofs.YtdepngppnbobdaaDoorW.PrintLast Go.Proofs.YtdepngppnbobdaaDoorW.PrintMore Go.Proofs.YtdepngppnbobdaaDoor.HCore Go.Proofs.YtdepngppnbobdaaDoor.HBaseL

def bits_Fixed32.f (a0 : Int) : Option (ByteArray) := some (fxb 4 a0)
theorem bits_Fixed32.calls (a0 : Int) (r : ByteArray) (w : World) (h : bits_Fixed32.f a0 = some r) :
    Calls Tryd.prog 40 #[.int .u32 a0] w fun e w' => e = .returned (.string r) ∧ Below w.heap.size w w' := by
  exact PBase.bits_Fixed32.calls a0 r w ((bits_fixed32 a0).trans h)
def bits_Fixed64.f (a0 : Int) : Option (ByteArray) := if 0 ≤ a0 ∧ a0 ≤ 18446744073709551615 then some (fxb 8 a0) else none
theorem bits_Fixed64.calls (a0 : Int) (r : ByteArray) (w : World) (h : bits_Fixed64.f a0 = some r) :
    Calls Tryd.prog 41 #[.int .u64 a0] w fun e w' => e = .returned (.string r) ∧ Below w.heap.size w w' := by
  unfold bits_Fixed64.f at h
  by_cases g : 0 ≤ a0 ∧ a0 ≤ 18446744073709551615
  · rw [if_pos g] at h
    exact PBase.bits_Fixed64.calls a0 r w ((bits_fixed64 a0 g).trans h)
  · rw [if_neg g] at h
    cases h
def strataref01_Fixed32.f (a0 : Int) : Option (ByteArray) := if 0 ≤ a0 ∧ a0 ≤ 4294967295 then some (fxb 4 a0) else none
theorem strataref01_Fixed32.calls (a0 : Int) (r : ByteArray) (w : World) (h : strataref01_Fixed32.f a0 = some r) :
    Calls Tryd.prog 45 #[.int .u32 a0] w fun e w' => e = .returned (.string r) ∧ Below w.heap.size w w' := by
  unfold strataref01_Fixed32.f at h
  by_cases g : 0 ≤ a0 ∧ a0 ≤ 4294967295
  · rw [if_pos g] at h
    exact PBase.strataref01_Fixed32.calls 60 a0 r w ((ref_fixed32 a0 g).trans h)
  · rw [if_neg g] at h
    cases h
def strataref01_Fixed64.f (a0 : Int) : Option (ByteArray) := if 0 ≤ a0 ∧ a0 ≤ 18446744073709551615 then some (fxb 8 a0) else none
theorem strataref01_Fixed64.calls (a0 : Int) (r : ByteArray) (w : World) (h : strataref01_Fixed64.f a0 = some r) :
    Calls Tryd.prog 46 #[.int .u64 a0] w fun e w' => e = .returned (.string r) ∧ Below w.heap.size w w' := by
  unfold strataref01_Fixed64.f at h
  by_cases g : 0 ≤ a0 ∧ a0 ≤ 18446744073709551615
  · rw [if_pos g] at h
    exact PBase.strataref01_Fixed64.calls 60 a0 r w ((ref_fixed64 a0 g).trans h)
  · rw [if_neg g] at h
    cases h
def strataref01_ReadFixed32.f (a0 : ByteArray) (a1 : Int) : Option (Int × Int × Int) := if a0.size ≤ 4611686018427387904 then some (rfix a0 a1 4) else none
theorem strataref01_ReadFixed32.calls (a0 : ByteArray) (a1 : Int) (r1 : Int) (r2 : Int) (r3 : Int) (w : World) (h : strataref01_ReadFixed32.f a0 a1 = some (r1, r2, r3)) :
    Calls Tryd.prog 50 #[.string a0, .int .i64 a1] w fun e w' => e = .returned (.tuple #[.int .u32 r1, .int .i64 r2, .int .i64 r3]) ∧ Drawn0 w w' := by
  unfold strataref01_ReadFixed32.f at h
  by_cases g : a0.size ≤ 4611686018427387904
  · rw [if_pos g] at h
    exact PBase.strataref01_ReadFixed32.calls 60 a0 a1 r1 r2 r3 w ((ref_f32 a0 a1 g 60 (by decide)).trans h)
  · rw [if_neg g] at h
    cases h
def strataref01_ReadFixed64.f (a0 : ByteArray) (a1 : Int) : Option (Int × Int × Int) := if a0.size ≤ 4611686018427387904 then some (rfix a0 a1 8) else none
theorem strataref01_ReadFixed64.calls (a0 : ByteArray) (a1 : Int) (r1 : Int) (r2 : Int) (r3 : Int) (w : World) (h : strataref01_ReadFixed64.f a0 a1 = some (r1, r2, r3)) :
    Calls Tryd.prog 51 #[.string a0, .int .i64 a1] w fun e w' => e = .returned (.tuple #[.int .u64 r1, .int .i64 r2, .int .i64 r3]) ∧ Drawn0 w w' := by
  unfold strataref01_ReadFixed64.f at h
  by_cases g : a0.size ≤ 4611686018427387904
  · rw [if_pos g] at h
    exact PBase.strataref01_ReadFixed64.calls 60 a0 a1 r1 r2 r3 w ((ref_f64 a0 a1 g 60 (by decide)).trans h)
  · rw [if_neg g] at h
    cases h
def bits_ReadFixed32.f (a0 : ByteArray) (a1 : Int) : Option (Int × Int × Int) := if a0.size ≤ 4611686018427387904 then some (rfix a0 a1 4) else none
theorem bits_ReadFixed32.calls (a0 : ByteArray) (a1 : Int) (r1 : Int) (r2 : Int) (r3 : Int) (w : World) (h : bits_ReadFixed32.f a0 a1 = some (r1, r2, r3)) :
    Calls Tryd.prog 86 #[.string a0, .int .i64 a1] w fun e w' => e = .returned (.tuple #[.int .u32 r1, .int .i64 r2, .int .i64 r3]) ∧ Drawn0 w w' := by
  unfold bits_ReadFixed32.f at h
  by_cases g : a0.size ≤ 4611686018427387904
  · rw [if_pos g] at h
    exact PBase.bits_ReadFixed32.calls 60 a0 a1 r1 r2 r3 w ((bits_f32 a0 a1 g 60 (by decide)).trans h)
  · rw [if_neg g] at h
    cases h
def bits_ReadFixed64.f (a0 : ByteArray) (a1 : Int) : Option (Int × Int × Int) := if a0.size ≤ 4611686018427387904 then some (rfix a0 a1 8) else none
theorem bits_ReadFixed64.calls (a0 : ByteArray) (a1 : Int) (r1 : Int) (r2 : Int) (r3 : Int) (w : World) (h : bits_ReadFixed64.f a0 a1 = some (r1, r2, r3)) :
    Calls Tryd.prog 85 #[.string a0, .int .i64 a1] w fun e w' => e = .returned (.tuple #[.int .u64 r1, .int .i64 r2, .int .i64 r3]) ∧ Drawn0 w w' := by
  unfold bits_ReadFixed64.f at h
  by_cases g : a0.size ≤ 4611686018427387904
  · rw [if_pos g] at h
    exact PBase.bits_ReadFixed64.calls 60 a0 a1 r1 r2 r3 w ((bits_f64 a0 a1 g 60 (by decide)).trans h)
  · rw [if_neg g] at h
    cases h

end Go.Proofs.YtdepngppnbobdaaDoor.HBase
