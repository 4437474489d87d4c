/- bits.Blob and the document's own Blob: a length laid ahead of bytes, or the refusal of a text that is too long; nothing that was there is changed. -/
import Derived.Test.YtlgagjgfenmfeaaHBase
set_option linter.unusedVariables false
set_option linter.unusedSimpArgs false
namespace Go.Proofs.Ytlgagjgfenmfeaa.HBlob
open Go.RowKit Go.Proofs.Ytlgagjgfenmfeaa.HUv Go.Proofs.Ytlgagjgfenmfeaa.HBase Go.Proofs.YtlgagjgfenmfeaaW.PrintWords Go.Proofs.YtlgagjgfenmfeaaW.PrintLast Go.Proofs.YtlgagjgfenmfeaaW.PrintMore Go.Proofs.Ytlgagjgfenmfeaa.HCore

theorem uvl_length : ∀ d v, (uvl d v).length ≤ d
  | 0, _ => by simp [uvl]
  | d + 1, v => by
    rw [uvl]
    split
    · have := uvl_length d (v / 128); simp; omega
    · simp
theorem uvb_size (v : Nat) : (uvb v).size ≤ 10 := by
  unfold uvb
  rw [strOfNums_len, List.length_map]
  exact uvl_length 10 v
def blobOf (s : ByteArray) : ByteArray × Int := if s.size > 1048576 then (⟨#[]⟩, 4) else (uvb s.size ++ s, 0)

set_option maxHeartbeats 1000000 in
theorem bits_any (s : ByteArray) (w : World) : Calls Try.prog 40 #[.string s] w fun e w' => e = .returned (.tuple #[.string (blobOf s).1, .int .i64 (blobOf s).2]) ∧ Below w.heap.size w w' := by
  by_cases h : s.size > 1048576
  · have e : blobOf s = (⟨#[]⟩, 4) := by unfold blobOf; rw [if_pos h]
    have H := Aside0.mk e
    clear e
    have h1 : decide (1048576 < (s.size : Int)) = true := decide_eq_true (by omega)
    have h2 : decide (1048576 < s.size) = true := decide_eq_true h
    go_enter Try.func40, Try.ntmps40
    go_wp2
    go_ret2
    exact ⟨by rw [H.out]; rfl, Below.refl _ _⟩
  · have e : blobOf s = (uvb s.size ++ s, 0) := by unfold blobOf; rw [if_neg h]
    have H := Aside0.mk e
    clear e
    have h1 : decide (1048576 < (s.size : Int)) = false := decide_eq_false (by omega)
    have h2 : decide (1048576 < s.size) = false := decide_eq_false h
    have hz := uvb_size s.size
    have hA : bits_Uvarint.f (s.size : Int) = some (uvb s.size) := by
      unfold bits_Uvarint.f
      rw [if_pos (by omega), Int.toNat_natCast]
    have HA := Aside0.mk hA
    clear hA
    have hle : s.size ≤ 1048576 := by omega
    have c4b1 : decide ((uvb s.size).size + s.size ≤ 9223372036854775807) = true := decide_eq_true (by omega)
    have c4b2 : (9223372036854775807 < (uvb s.size).size + s.size) = False := eq_false (by omega)
    clear h
    go_enter Try.func40, Try.ntmps40
    go_wp2_with (first | (go_at_call 22; (with_reducible refine (bits_Uvarint.calls _ _ _ HA.out).mono ?_); rintro e w' ⟨rfl, hb⟩))
    go_ret2
    exact ⟨by rw [H.out]; rfl, hb⟩

set_option maxHeartbeats 1000000 in
theorem ref_any (s : ByteArray) (w : World) : Calls Try.prog 27 #[.string s] w fun e w' => e = .returned (.tuple #[.string (blobOf s).1, .int .i64 (blobOf s).2]) ∧ Below w.heap.size w w' := by
  by_cases h : s.size > 1048576
  · have e : blobOf s = (⟨#[]⟩, 4) := by unfold blobOf; rw [if_pos h]
    have H := Aside0.mk e
    clear e
    have h1 : decide (1048576 < (s.size : Int)) = true := decide_eq_true (by omega)
    have h2 : decide (1048576 < s.size) = true := decide_eq_true h
    go_enter Try.func27, Try.ntmps27
    go_wp2
    go_ret2
    exact ⟨by rw [H.out]; rfl, Below.refl _ _⟩
  · have e : blobOf s = (uvb s.size ++ s, 0) := by unfold blobOf; rw [if_neg h]
    have H := Aside0.mk e
    clear e
    have h1 : decide (1048576 < (s.size : Int)) = false := decide_eq_false (by omega)
    have h2 : decide (1048576 < s.size) = false := decide_eq_false h
    have hz := uvb_size s.size
    have hA : strataref01_Uvarint.f (s.size : Int) = some (uvb s.size) := by
      unfold strataref01_Uvarint.f
      rw [if_pos (by omega), Int.toNat_natCast]
    have HA := Aside0.mk hA
    clear hA
    have hle : s.size ≤ 1048576 := by omega
    have c4b1 : decide ((uvb s.size).size + s.size ≤ 9223372036854775807) = true := decide_eq_true (by omega)
    have c4b2 : (9223372036854775807 < (uvb s.size).size + s.size) = False := eq_false (by omega)
    clear h
    go_enter Try.func27, Try.ntmps27
    go_wp2_with (first | (go_at_call 26; (with_reducible refine (strataref01_Uvarint.calls _ _ _ HA.out).mono ?_); rintro e w' ⟨rfl, hb⟩))
    go_ret2
    exact ⟨by rw [H.out]; rfl, hb⟩

def bits_Blob.f (a0 : ByteArray) : Option (ByteArray × Int) := some (blobOf a0)
theorem bits_Blob.calls (a0 : ByteArray) (r1 : ByteArray) (r2 : Int) (w : World) (h : bits_Blob.f a0 = some (r1, r2)) :
    Calls Try.prog 40 #[.string a0] w fun e w' => e = .returned (.tuple #[.string r1, .int .i64 r2]) ∧ Below w.heap.size w w' := by
  have e := Option.some.inj h
  have := bits_any a0 w
  rw [e] at this
  exact this
def strataref01_Blob.f (a0 : ByteArray) : Option (ByteArray × Int) := some (blobOf a0)
theorem strataref01_Blob.calls (a0 : ByteArray) (r1 : ByteArray) (r2 : Int) (w : World) (h : strataref01_Blob.f a0 = some (r1, r2)) :
    Calls Try.prog 27 #[.string a0] w fun e w' => e = .returned (.tuple #[.string r1, .int .i64 r2]) ∧ Below w.heap.size w w' := by
  have e := Option.some.inj h
  have := ref_any a0 w
  rw [e] at this
  exact this

end Go.Proofs.Ytlgagjgfenmfeaa.HBlob
