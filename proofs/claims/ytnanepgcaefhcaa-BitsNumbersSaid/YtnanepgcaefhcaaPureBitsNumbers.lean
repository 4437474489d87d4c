/- BitsNumbers returns true: the bytes of every number, fixed number and blob are those that the document says. Condition: the form's own reach (a text of at most 2^47 - 4096 bytes). -/
import Derived.Test.YtnanepgcaefhcaaPBitsNumbersx1
import Derived.Test.YtnanepgcaefhcaaHCore
set_option linter.unusedVariables false
set_option linter.unusedSimpArgs false
namespace Go.Proofs.Ytnanepgcaefhcaa.Pure
open Go.RowKit Go.Proofs.Ytnanepgcaefhcaa.PBitsNumbers Go.Proofs.Ytnanepgcaefhcaa.HUv Go.Proofs.Ytnanepgcaefhcaa.HBase Go.Proofs.Ytnanepgcaefhcaa.HBlob Go.Proofs.YtnanepgcaefhcaaW.PrintWords Go.Proofs.YtnanepgcaefhcaaW.PrintLast Go.Proofs.Ytnanepgcaefhcaa.HCore

theorem BitsNumbers : stratalaw01_BitsNumbers.Pure := by
  intro v i n s hv hi hn hs
  have hv := rng_u64 hv
  have hi := rng_i64 hi
  have hn := rng_u32 hn
  have h1 : bits_Uvarint.f v = some (uvb v.toNat) := by unfold bits_Uvarint.f; rw [if_pos hv]
  have h2 : strataref01_Uvarint.f v = some (uvb v.toNat) := by unfold strataref01_Uvarint.f; rw [if_pos hv]
  have h3 : bits_Svarint.f i = some (uvb (zig i).toNat) := by unfold bits_Svarint.f; rw [if_pos hi]
  have h4 : strataref01_Svarint.f i = some (uvb (zig i).toNat) := by unfold strataref01_Svarint.f; rw [if_pos hi]
  have h5 : bits_Fixed32.f n = some (fxb 4 n) := rfl
  have h6 : strataref01_Fixed32.f n = some (fxb 4 n) := by unfold strataref01_Fixed32.f; rw [if_pos hn]
  have h7 : bits_Fixed64.f v = some (fxb 8 v) := by unfold bits_Fixed64.f; rw [if_pos hv]
  have h8 : strataref01_Fixed64.f v = some (fxb 8 v) := by unfold strataref01_Fixed64.f; rw [if_pos hv]
  have h9 : bits_Blob.f s = some (blobOf s) := rfl
  have h10 : strataref01_Blob.f s = some (blobOf s) := rfl
  refine ⟨3, ?_⟩
  unfold stratalaw01_BitsNumbers.f
  rw [h1, h2, h3, h4]
  simp only [Option.bind_some, if_true, bne_self_eq_false, stratalaw01_BitsNumbers.j0]
  rw [if_neg (by decide), h5, h6, h7, h8]
  simp only [Option.bind_some, if_true, bne_self_eq_false, stratalaw01_BitsNumbers.j1]
  rw [if_neg (by decide), h9, h10]
  simp only [Option.bind_some, if_true, stratalaw01_num.f, beq_self_eq_true]

end Go.Proofs.Ytnanepgcaefhcaa.Pure
