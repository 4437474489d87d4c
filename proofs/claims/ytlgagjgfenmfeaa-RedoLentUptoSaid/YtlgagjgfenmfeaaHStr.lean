/- The language's comparisons of two strings, as the printed functions spell them. -/
import Derived.Test.YtlgagjgfenmfeaaHCore
import Derived.WalkKit
set_option linter.unusedVariables false
set_option linter.unusedSimpArgs false
namespace Go.Proofs.Ytlgagjgfenmfeaa.HStr
open Go.RowKit Go.Proofs.YtlgagjgfenmfeaaW.PrintWords Go.Proofs.YtlgagjgfenmfeaaW.PrintLast Go.Proofs.Ytlgagjgfenmfeaa.HCore
/-- Not below and not the same: above. -/
theorem less_turned : ∀ (x y : List UInt8), (!(Op.bytesLess x y || x == y)) = Op.bytesLess y x
  | [], [] => rfl
  | [], _ :: _ => rfl
  | _ :: _, [] => rfl
  | a :: x, b :: y => by
    have ih := less_turned x y
    rcases Nat.lt_trichotomy a.toNat b.toNat with h | h | h
    · have h1 : a < b := by rw [UInt8.lt_iff_toNat_lt]; exact h
      have h2 : ¬ b < a := by rw [UInt8.lt_iff_toNat_lt]; omega
      have h3 : ¬ b = a := fun e => by rw [e] at h; omega
      simp [Op.bytesLess, h1, h2, h3]
    · obtain rfl : a = b := UInt8.toNat_inj.1 h
      have h1 : ¬ a < a := by rw [UInt8.lt_iff_toNat_lt]; omega
      simpa [Op.bytesLess, h1] using ih
    · have h1 : b < a := by rw [UInt8.lt_iff_toNat_lt]; exact h
      have h2 : ¬ a < b := by rw [UInt8.lt_iff_toNat_lt]; omega
      have h3 : ¬ a = b := fun e => by rw [e] at h; omega
      simp [Op.bytesLess, h1, h2, h3]
theorem less_eq (x y : List UInt8) : (Op.bytesLess x y || x == y) = !Op.bytesLess y x := by rw [← less_turned x y, Bool.not_not]
@[go_sem] theorem gtr_string (t : TypeId) (a b : ByteArray) : binOp .gtr t (.string a) (.string b) = pure (.bool (Op.bytesLess b.toList a.toList)) := by
  rw [← less_turned a.toList b.toList]
  simp [binOp, Op.stringOp]
@[go_sem] theorem leq_string (t : TypeId) (a b : ByteArray) : binOp .leq t (.string a) (.string b) = pure (.bool (!Op.bytesLess b.toList a.toList)) := by
  rw [← less_eq a.toList b.toList]
  simp [binOp, Op.stringOp]
@[go_sem] theorem geq_string (t : TypeId) (a b : ByteArray) : binOp .geq t (.string a) (.string b) = pure (.bool (!Op.bytesLess a.toList b.toList)) := by
  simp [binOp, Op.stringOp]
end Go.Proofs.Ytlgagjgfenmfeaa.HStr
