/- The contracts of layer 1's functions that read and write numbers, and of the document's own, each with one plain function: out of the printed contracts and the plain laws. -/
import Derived.Test.YtlgagjgfenmfeaaHBaseL
set_option linter.unusedVariables false
namespace Go.Proofs.Ytlgagjgfenmfeaa.HBase
open Go.RowKit Go.Proofs.YtlgagjgfenmfeaaW.PrintWords Go.Proofs.YtlgagjgfenmfeaaW.PrintLast Go.Proofs.YtlgagjgfenmfeaaW.PrintMore Go.Proofs.Ytlgagjgfenmfeaa.HCore Go.Proofs.Ytlgagjgfenmfeaa.HBaseL

def strataref01_Uvarint.f (a0 : Int) : Option (ByteArray) := if 0 ≤ a0 ∧ a0 ≤ 18446744073709551615 then some (uvb a0.toNat) else none
theorem strataref01_Uvarint.calls (a0 : Int) (r : ByteArray) (w : World) (h : strataref01_Uvarint.f a0 = some r) :
    Calls Try.prog 26 #[.int .u64 a0] w fun e w' => e = .returned (.string r) ∧ Below w.heap.size w w' := by
  unfold strataref01_Uvarint.f at h
  by_cases g : 0 ≤ a0 ∧ a0 ≤ 18446744073709551615
  · rw [if_pos g] at h
    exact PBase.strataref01_Uvarint.calls 60 a0 r w ((ref_uvarint a0 g).trans h)
  · rw [if_neg g] at h
    cases h
def bits_ReadUvarint.f (a0 : ByteArray) (a1 : Int) : Option (Int × Int × Int) := if a0.size ≤ 4611686018427387904 then some (ruv a0 a1) else none
theorem bits_ReadUvarint.calls (a0 : ByteArray) (a1 : Int) (r1 : Int) (r2 : Int) (r3 : Int) (w : World) (h : bits_ReadUvarint.f a0 a1 = some (r1, r2, r3)) :
    Calls Try.prog 42 #[.string a0, .int .i64 a1] w fun e w' => e = .returned (.tuple #[.int .u64 r1, .int .i64 r2, .int .i64 r3]) ∧ Drawn0 w w' := by
  unfold bits_ReadUvarint.f at h
  by_cases g : a0.size ≤ 4611686018427387904
  · rw [if_pos g] at h
    exact PBase.bits_ReadUvarint.calls 60 a0 a1 r1 r2 r3 w ((bits_uv a0 a1 g 60 (by decide)).trans h)
  · rw [if_neg g] at h
    cases h
def strataref01_ReadUvarint.f (a0 : ByteArray) (a1 : Int) : Option (Int × Int × Int) := if a0.size ≤ 4611686018427387904 then some (ruv a0 a1) else none
theorem strataref01_ReadUvarint.calls (a0 : ByteArray) (a1 : Int) (r1 : Int) (r2 : Int) (r3 : Int) (w : World) (h : strataref01_ReadUvarint.f a0 a1 = some (r1, r2, r3)) :
    Calls Try.prog 35 #[.string a0, .int .i64 a1] w fun e w' => e = .returned (.tuple #[.int .u64 r1, .int .i64 r2, .int .i64 r3]) ∧ Drawn0 w w' := by
  unfold strataref01_ReadUvarint.f at h
  by_cases g : a0.size ≤ 4611686018427387904
  · rw [if_pos g] at h
    exact PBase.strataref01_ReadUvarint.calls 60 a0 a1 r1 r2 r3 w ((ref_uv a0 a1 g 60 (by decide)).trans h)
  · rw [if_neg g] at h
    cases h
def bits_bounded.f (a0 : ByteArray) (a1 : Int) (a2 : Int) : Option (ByteArray × Int × Int) := if a0.size ≤ 4611686018427387904 ∧ 0 ≤ a2 ∧ a2 ≤ 1048576 then some (rtext a0 a1 a2) else none
theorem bits_bounded.calls (a0 : ByteArray) (a1 : Int) (a2 : Int) (r1 : ByteArray) (r2 : Int) (r3 : Int) (w : World) (h : bits_bounded.f a0 a1 a2 = some (r1, r2, r3)) :
    Calls Try.prog 47 #[.string a0, .int .i64 a1, .int .u64 a2] w fun e w' => e = .returned (.tuple #[.string r1, .int .i64 r2, .int .i64 r3]) ∧ Drawn0 w w' := by
  unfold bits_bounded.f at h
  by_cases g : a0.size ≤ 4611686018427387904 ∧ 0 ≤ a2 ∧ a2 ≤ 1048576
  · rw [if_pos g] at h
    exact PBase.bits_bounded.calls 60 a0 a1 a2 r1 r2 r3 w ((bits_bd a0 a1 a2 g.1 g.2 60 (by decide)).trans h)
  · rw [if_neg g] at h
    cases h
def bits_ReadBlob.f (a0 : ByteArray) (a1 : Int) : Option (ByteArray × Int × Int) := if a0.size ≤ 4611686018427387904 then some (rtext a0 a1 1048576) else none
theorem bits_ReadBlob.calls (a0 : ByteArray) (a1 : Int) (r1 : ByteArray) (r2 : Int) (r3 : Int) (w : World) (h : bits_ReadBlob.f a0 a1 = some (r1, r2, r3)) :
    Calls Try.prog 43 #[.string a0, .int .i64 a1] w fun e w' => e = .returned (.tuple #[.string r1, .int .i64 r2, .int .i64 r3]) ∧ Drawn0 w w' := by
  unfold bits_ReadBlob.f at h
  by_cases g : a0.size ≤ 4611686018427387904
  · rw [if_pos g] at h
    exact PBase.bits_ReadBlob.calls 60 a0 a1 r1 r2 r3 w ((bits_bl a0 a1 g 60 (by decide)).trans h)
  · rw [if_neg g] at h
    cases h
def strataref01_readText.f (a0 : ByteArray) (a1 : Int) (a2 : Int) : Option (ByteArray × Int × Int) := if a0.size ≤ 4611686018427387904 ∧ 0 ≤ a2 ∧ a2 ≤ 1048576 then some (rtext a0 a1 a2) else none
theorem strataref01_readText.calls (a0 : ByteArray) (a1 : Int) (a2 : Int) (r1 : ByteArray) (r2 : Int) (r3 : Int) (w : World) (h : strataref01_readText.f a0 a1 a2 = some (r1, r2, r3)) :
    Calls Try.prog 45 #[.string a0, .int .i64 a1, .int .u64 a2] w fun e w' => e = .returned (.tuple #[.string r1, .int .i64 r2, .int .i64 r3]) ∧ Drawn0 w w' := by
  unfold strataref01_readText.f at h
  by_cases g : a0.size ≤ 4611686018427387904 ∧ 0 ≤ a2 ∧ a2 ≤ 1048576
  · rw [if_pos g] at h
    exact PBase.strataref01_readText.calls 60 a0 a1 a2 r1 r2 r3 w ((ref_bd a0 a1 a2 g.1 g.2 60 (by decide)).trans h)
  · rw [if_neg g] at h
    cases h
def strataref01_ReadBlob.f (a0 : ByteArray) (a1 : Int) : Option (ByteArray × Int × Int) := if a0.size ≤ 4611686018427387904 then some (rtext a0 a1 1048576) else none
theorem strataref01_ReadBlob.calls (a0 : ByteArray) (a1 : Int) (r1 : ByteArray) (r2 : Int) (r3 : Int) (w : World) (h : strataref01_ReadBlob.f a0 a1 = some (r1, r2, r3)) :
    Calls Try.prog 38 #[.string a0, .int .i64 a1] w fun e w' => e = .returned (.tuple #[.string r1, .int .i64 r2, .int .i64 r3]) ∧ Drawn0 w w' := by
  unfold strataref01_ReadBlob.f at h
  by_cases g : a0.size ≤ 4611686018427387904
  · rw [if_pos g] at h
    exact PBase.strataref01_ReadBlob.calls 60 a0 a1 r1 r2 r3 w ((ref_bl a0 a1 g 60 (by decide)).trans h)
  · rw [if_neg g] at h
    cases h

end Go.Proofs.Ytlgagjgfenmfeaa.HBase
