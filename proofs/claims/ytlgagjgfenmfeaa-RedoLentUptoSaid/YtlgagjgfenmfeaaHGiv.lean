/- The commit's functions of the program, each as the document's function: what a print that takes them as given calls by name (r2's plain seat). -/
import Derived.Test.YtlgagjgfenmfeaaHFrmW
import Derived.Test.YtlgagjgfenmfeaaHEnc
set_option linter.unusedVariables false
namespace Go.Proofs.Ytlgagjgfenmfeaa.HGiv
open Go.RowKit Go.Proofs.Ytlgagjgfenmfeaa.PRed Go.Proofs.Ytlgagjgfenmfeaa.HBase Go.Proofs.Ytlgagjgfenmfeaa.HRedL Go.Proofs.Ytlgagjgfenmfeaa.HDec Go.Proofs.YtlgagjgfenmfeaaW.PrintWords Go.Proofs.YtlgagjgfenmfeaaW.PrintLast Go.Proofs.YtlgagjgfenmfeaaW.PrintMore Go.Proofs.Ytlgagjgfenmfeaa.HCore

def redo_DecodeCommit.f (k : Nat) (a0 : ByteArray) : Option (Int × (List (S36)) × Int) := strataref11_DecodeCommit.f k a0
theorem redo_DecodeCommit.mono : ∀ a0 k, LeO (redo_DecodeCommit.f k a0) (redo_DecodeCommit.f (k + 1) a0) := strataref11_DecodeCommit.mono
theorem dec_is {k : Nat} {a0 : ByteArray} {r : Int × List S36 × Int} (h : strataref11_DecodeCommit.f k a0 = some r) : a0.size ≤ 4611686018427387904 ∧ r = told (decC a0) := by
  have hs : a0.size ≤ 4611686018427387904 := by
    apply Classical.byContradiction
    intro hn
    unfold strataref11_DecodeCommit.f strataref01_ReadUvarint.f at h
    rw [if_neg hn] at h
    cases h
  have h1 := at_rounds (fun k => strataref11_DecodeCommit.mono a0 k) (Nat.le_add_right k 601) h
  rw [ref_dec a0 hs _ (by omega)] at h1
  exact ⟨hs, (Option.some.inj h1).symm⟩
theorem redo_DecodeCommit.calls (k : Nat) (a0 : ByteArray) (r1 : Int) (r2 : List (S36)) (r3 : Int) (w : World) (h : redo_DecodeCommit.f k a0 = some (r1, r2, r3)) :
    Calls Try.prog 13 #[.string a0] w fun e w' => ∃ v1_ : Value, e = .returned (.tuple #[.agg #[.int .u64 r1, v1_], .int .i64 r3]) ∧ Kd.R k36 36 w' w.heap.size (fun _ => True) v1_ r2 ∧ Below w.heap.size w w' := by
  obtain ⟨hs, hr⟩ := dec_is h
  have := HDecW.dec_any a0 w hs
  rw [← hr] at this
  exact this
def redo_FrameCommits.f (k : Nat) (a0 : ByteArray) : Option ((List (S25)) × Int) := if a0.size ≤ 1000000000000 then strataref11_FrameCommits.f k a0 else none
theorem redo_FrameCommits.mono : ∀ a0 k, LeO (redo_FrameCommits.f k a0) (redo_FrameCommits.f (k + 1) a0) := fun a0 k => by
  unfold redo_FrameCommits.f
  exact LeO.ite (strataref11_FrameCommits.mono a0 k) (LeO.none _)
theorem frm_is {k : Nat} {a0 : ByteArray} (hs : a0.size ≤ 1000000000000) {r : List S25 × Int} (h : strataref11_FrameCommits.f k a0 = some r) : r = toldF (frmC a0) := by
  have h1 := at_rounds (fun k => strataref11_FrameCommits.mono a0 k) (Nat.le_add_right k (a0.size + 701)) h
  rw [ref_frm a0 hs _ (by omega)] at h1
  exact (Option.some.inj h1).symm
theorem redo_FrameCommits.calls (k : Nat) (a0 : ByteArray) (r1 : List (S25)) (r2 : Int) (w : World) (h : redo_FrameCommits.f k a0 = some (r1, r2)) :
    Calls Try.prog 15 #[.string a0] w fun e w' => ∃ v0_ : Value, e = .returned (.tuple #[v0_, .int .i64 r2]) ∧ Kd.S k25 25 w' w.heap.size (fun _ => True) v0_ r1 ∧ Below w.heap.size w w' := by
  unfold redo_FrameCommits.f at h
  by_cases hs : a0.size ≤ 1000000000000
  · rw [if_pos hs] at h
    have hr := frm_is hs h
    have := HFrmW.frm_any a0 w hs
    rw [← hr] at this
    exact this
  · rw [if_neg hs] at h
    cases h
def redo_EncodeCommit.f (k : Nat) (a0_0 : Int) (l0_1 : List (S36)) : Option (ByteArray × Int) := if l0_1.length < 100000000000 then strataref11_EncodeCommit.f k a0_0 l0_1 else none
theorem redo_EncodeCommit.mono : ∀ a0 a1 k, LeO (redo_EncodeCommit.f k a0 a1) (redo_EncodeCommit.f (k + 1) a0 a1) := fun a0 a1 k => by
  unfold redo_EncodeCommit.f
  exact LeO.ite (strataref11_EncodeCommit.mono a0 a1 k) (LeO.none _)
theorem redo_EncodeCommit.calls (k : Nat) (a0_0 : Int) (A0_1 : Option Addr) (c0_1 : Nat) (l0_1 : List (S36)) (r1 : ByteArray) (r2 : Int) (w : World) (hr0_1 : Kd.C k36 w A0_1 l0_1.length l0_1) (hc0_1 : l0_1.length ≤ c0_1) (h : redo_EncodeCommit.f k a0_0 l0_1 = some (r1, r2)) :
    Calls Try.prog 9 #[.agg #[.int .u64 a0_0, .slice A0_1 l0_1.length c0_1]] w fun e w' => e = .returned (.tuple #[.string r1, .int .i64 r2]) ∧ Below w.heap.size w w' := by
  unfold redo_EncodeCommit.f at h
  by_cases hs : l0_1.length < 100000000000
  · rw [if_pos hs] at h
    have h1 := at_rounds (fun k => strataref11_EncodeCommit.mono a0_0 l0_1 k) (Nat.le_add_right k (3 * l0_1.length + 3)) h
    rw [ref_enc a0_0 l0_1 (by omega) _ (by omega)] at h1
    exact HEnc.redo_EncodeCommit.calls a0_0 A0_1 c0_1 l0_1 r1 r2 w hr0_1 hc0_1 (by unfold HEnc.redo_EncodeCommit.f; rw [if_pos (by omega)]; exact h1)
  · rw [if_neg hs] at h
    cases h
end Go.Proofs.Ytlgagjgfenmfeaa.HGiv
