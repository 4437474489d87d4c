/- A reader of layer 11 that gives up by panic: what each of its methods leaves where it reads, and where it gives up (r2's seats). -/
import Derived.Test.YtlgagjgfenmfeaaHBase
import Derived.Tactics2
import Derived.Deep.QuietTactic
import Derived.BigQuiet
import Derived.StillTailTactics
import Derived.WalkLawsBesides
import Derived.IntWalk
set_option linter.unusedVariables false
set_option linter.unusedSimpArgs false
namespace Go.Proofs.Ytlgagjgfenmfeaa.HGive
open Go.RowKit Go.Proofs.Ytlgagjgfenmfeaa.HBase Go.Proofs.YtlgagjgfenmfeaaW.PrintWords Go.Proofs.YtlgagjgfenmfeaaW.PrintLast Go.Proofs.YtlgagjgfenmfeaaW.PrintMore Go.Proofs.Ytlgagjgfenmfeaa.HCore

/-- One block alone has been written. -/
structure Turn (g : Nat) (w w' : World) : Prop where
  os : w'.os = w.os
  tape : w'.tape = w.tape
  output : w'.output = w.output
  size : w.heap.size ≤ w'.heap.size
  block : ∀ k, k < w.heap.size → k ≠ g → w'.heap[k]? = w.heap[k]?
theorem Turn.refl (g : Nat) (w : World) : Turn g w w := ⟨rfl, rfl, rfl, Nat.le_refl _, fun _ _ _ => rfl⟩
theorem Turn.trans {g : Nat} {a b c : World} (h : Turn g a b) (k : Turn g b c) : Turn g a c :=
  ⟨k.os.trans h.os, k.tape.trans h.tape, k.output.trans h.output, Nat.le_trans h.size k.size, fun i hi hg => (k.block i (Nat.lt_of_lt_of_le hi h.size) hg).trans (h.block i hi hg)⟩
theorem Turn.of_below {g : Nat} {w w' : World} (h : Below w.heap.size w w') : Turn g w w' := ⟨h.os, h.tape, h.output, h.size, fun k hk _ => h.block k hk⟩
theorem Turn.drewN (g : Nat) (w : World) (n : Nat) : Turn g w (w.drewN n) := ⟨rfl, rfl, rfl, Nat.le_refl _, fun _ _ _ => rfl⟩
theorem Turn.set (g : Nat) (w : World) (j : Nat) (u : Value) : Turn g w (w.setCell ⟨g, j, none⟩ u) := ⟨rfl, rfl, rfl, by simp [World.setCell], fun k _ hk => Below.heap_setCell _ _ _ _ hk⟩
theorem Turn.below {g B : Nat} {w0 w w' : World} (h : Turn g w w') (hb : Below B w0 w) (hB : B ≤ w.heap.size) (hg : B ≤ g) : Below B w0 w' :=
  hb.trans ⟨h.os, h.tape, h.output, h.size, fun k hk => h.block k (by omega) (by omega)⟩
theorem Turn.blk {g k : Nat} {w w' : World} {o : Obj} (h : Turn g w w') (hk : w.heap[k]? = some o) (hne : k ≠ g) : w'.heap[k]? = some o := (h.block k (blk_lt hk) hne).trans hk

/-- What a reader gives up with. -/
def gone : Value := .iface 85 (.agg #[])
def gives : Ending := .panicked [{ v := gone, recovered := false }]
/-- A reader of s, at p, in block g. -/
abbrev Rd (s : ByteArray) (p : Int) : Obj := .cells #[.string s, .int .i64 p] 69 (0, 0)

theorem need_ok (v : Value) (w : World) : Calls Try.prog 31 #[v, .bool true] w fun e w' => e = .returned (.tuple #[]) ∧ w' = w := by
  go_enter Try.func31, Try.ntmps31
  go_wp2
  go_end0
  exact ⟨rfl, rfl⟩
theorem need_gone (v : Value) (w : World) : Calls Try.prog 31 #[v, .bool false] w fun e w' => e = gives ∧ w' = w := by
  go_enter Try.func31, Try.ntmps31
  go_wp2
  exact ⟨rfl, rfl, rfl⟩
theorem over_any (g : Nat) (s : ByteArray) (p : Int) (w : World) (h : w.heap[g]? = some (Rd s p)) :
    Calls Try.prog 34 #[.pointer (some ⟨g, 0, none⟩)] w fun e w' => e = .returned (.bool (p == (s.size : Int))) ∧ Drawn0 w w' := by
  have h0 : _ = some (Value.string s) := (blk_cell h 0).trans rfl
  have h1 : _ = some (Value.int .i64 p) := (blk_cell h 1).trans rfl
  clear h
  go_enter Try.func34, Try.ntmps34
  go_wp2
  go_quiet (fail)
  go_wp2
  go_ret
  exact ⟨rfl, ⟨⟨nq, rfl⟩⟩⟩

theorem setc {w : World} {g : Nat} {s : ByteArray} {p q : Int} (h : w.heap[g]? = some (Rd s p)) : (w.setCell ⟨g, 1, none⟩ (.int .i64 q)).heap[g]? = some (Rd s q) := (blk_set h 1 _).trans rfl
theorem uvarint_ok (g : Nat) (s : ByteArray) (p : Int) (w : World) (h : w.heap[g]? = some (Rd s p)) (hs : s.size ≤ 4611686018427387904) (v q : Int) (hr : ruv s p = (v, q, 0)) :
    Calls Try.prog 30 #[.pointer (some ⟨g, 0, none⟩)] w fun e w' => e = .returned (.int .u64 v) ∧ Turn g w w' ∧ w'.heap[g]? = some (Rd s q) := by
  have H := Aside0.mk h
  have h0 : _ = some (Value.string s) := (blk_cell h 0).trans rfl
  have h1 : _ = some (Value.int .i64 p) := (blk_cell h 1).trans rfl
  have HR : Aside0 (bits_ReadUvarint.f s p = some (v, q, 0)) := ⟨by unfold bits_ReadUvarint.f; rw [if_pos hs, hr]⟩
  have hf : w.frozen? ⟨g, 1, none⟩ = false := blk_frozen h 1
  clear h hs hr
  go_enter Try.func30, Try.ntmps30
  go_wp2
  go_quiet ((go_at_call 42; exact Calls.quiet_of ((bits_ReadUvarint.calls s p v q 0 _ HR.out).mono fun e w' hw => ⟨hw.1, hw.2.out⟩)))
  go_wp2_with (go_at_call 31; refine (need_ok _ _).mono ?_; rintro e w1 ⟨rfl, rfl⟩)
  go_ret
  exact ⟨rfl, (Turn.drewN g w nq).trans (Turn.set _ _ _ _), setc H.out⟩
theorem uvarint_gone (g : Nat) (s : ByteArray) (p : Int) (w : World) (h : w.heap[g]? = some (Rd s p)) (hs : s.size ≤ 4611686018427387904) (v q e0 : Int) (hr : ruv s p = (v, q, e0)) (he : e0 ≠ 0) :
    Calls Try.prog 30 #[.pointer (some ⟨g, 0, none⟩)] w fun e w' => e = gives ∧ Drawn0 w w' := by
  have h0 : _ = some (Value.string s) := (blk_cell h 0).trans rfl
  have h1 : _ = some (Value.int .i64 p) := (blk_cell h 1).trans rfl
  have HR : Aside0 (bits_ReadUvarint.f s p = some (v, q, e0)) := ⟨by unfold bits_ReadUvarint.f; rw [if_pos hs, hr]⟩
  have hb : (e0 == 0) = false := by simpa using he
  clear h hs hr he
  go_enter Try.func30, Try.ntmps30
  go_wp2
  go_quiet ((go_at_call 42; exact Calls.quiet_of ((bits_ReadUvarint.calls s p v q e0 _ HR.out).mono fun e w' hw => ⟨hw.1, hw.2.out⟩)))
  go_wp2_with (go_at_call 31; refine (need_gone _ _).mono ?_; rintro e w1 ⟨he, rfl⟩; unfold gives at he; subst he)
  go_wp2
  exact ⟨rfl, rfl, ⟨⟨nq, rfl⟩⟩⟩
theorem blob_ok (g : Nat) (s : ByteArray) (p : Int) (w : World) (h : w.heap[g]? = some (Rd s p)) (hs : s.size ≤ 4611686018427387904) (v : ByteArray) (q : Int) (hr : rtext s p 1048576 = (v, q, 0)) :
    Calls Try.prog 33 #[.pointer (some ⟨g, 0, none⟩)] w fun e w' => e = .returned (.string v) ∧ Turn g w w' ∧ w'.heap[g]? = some (Rd s q) := by
  have H := Aside0.mk h
  have h0 : _ = some (Value.string s) := (blk_cell h 0).trans rfl
  have h1 : _ = some (Value.int .i64 p) := (blk_cell h 1).trans rfl
  have HR : Aside0 (bits_ReadBlob.f s p = some (v, q, 0)) := ⟨by unfold bits_ReadBlob.f; rw [if_pos hs, hr]⟩
  have hf : w.frozen? ⟨g, 1, none⟩ = false := blk_frozen h 1
  clear h hs hr
  go_enter Try.func33, Try.ntmps33
  go_wp2
  go_quiet ((go_at_call 43; exact Calls.quiet_of ((bits_ReadBlob.calls s p v q 0 _ HR.out).mono fun e w' hw => ⟨hw.1, hw.2.out⟩)))
  go_wp2_with (go_at_call 31; refine (need_ok _ _).mono ?_; rintro e w1 ⟨rfl, rfl⟩)
  go_ret
  exact ⟨rfl, (Turn.drewN g w nq).trans (Turn.set _ _ _ _), setc H.out⟩
theorem blob_gone (g : Nat) (s : ByteArray) (p : Int) (w : World) (h : w.heap[g]? = some (Rd s p)) (hs : s.size ≤ 4611686018427387904) (v : ByteArray) (q e0 : Int) (hr : rtext s p 1048576 = (v, q, e0)) (he : e0 ≠ 0) :
    Calls Try.prog 33 #[.pointer (some ⟨g, 0, none⟩)] w fun e w' => e = gives ∧ Drawn0 w w' := by
  have h0 : _ = some (Value.string s) := (blk_cell h 0).trans rfl
  have h1 : _ = some (Value.int .i64 p) := (blk_cell h 1).trans rfl
  have HR : Aside0 (bits_ReadBlob.f s p = some (v, q, e0)) := ⟨by unfold bits_ReadBlob.f; rw [if_pos hs, hr]⟩
  have hb : (e0 == 0) = false := by simpa using he
  clear h hs hr he
  go_enter Try.func33, Try.ntmps33
  go_wp2
  go_quiet ((go_at_call 43; exact Calls.quiet_of ((bits_ReadBlob.calls s p v q e0 _ HR.out).mono fun e w' hw => ⟨hw.1, hw.2.out⟩)))
  go_wp2_with (go_at_call 31; refine (need_gone _ _).mono ?_; rintro e w1 ⟨he, rfl⟩; unfold gives at he; subst he)
  go_wp2
  exact ⟨rfl, rfl, ⟨⟨nq, rfl⟩⟩⟩
theorem byte_ok (g : Nat) (s : ByteArray) (p : Int) (w : World) (h : w.heap[g]? = some (Rd s p)) (hs : s.size ≤ 4611686018427387904) (hp : 0 ≤ p) (hlt : p < (s.size : Int)) :
    Calls Try.prog 32 #[.pointer (some ⟨g, 0, none⟩)] w fun e w' => e = .returned (.int .u8 (bt s p)) ∧ Turn g w w' ∧ w'.heap[g]? = some (Rd s (p + 1)) := by
  have H := Aside0.mk h
  have h0 : _ = some (Value.string s) := (blk_cell h 0).trans rfl
  have h1 : _ = some (Value.int .i64 p) := (blk_cell h 1).trans rfl
  have hb : decide (p < (s.size : Int)) = true := decide_eq_true hlt
  have hf : w.frozen? ⟨g, 1, none⟩ = false := blk_frozen h 1
  have HB := Aside0.mk (bt_at s p)
  have hin : p.toNat < s.size := by omega
  have ha : IntKind.i64.wrap (p + 1 - 1) = p := by rw [IntWalk.i64_in _ (by omega)]; omega
  clear h
  go_enter Try.func32, Try.ntmps32
  go_wp2
  go_quiet ((go_at_call 31; exact Calls.quiet_of_same (need_ok _ _)))
  go_wp2
  go_quiet (fail)
  go_wp2
  go_ret
  exact ⟨congrArg (fun z => Ending.returned (.int .u8 z)) (HB.out hin), (((Turn.drewN g w _).trans (Turn.set _ _ _ _)).trans (Turn.drewN g _ _)), setc H.out⟩
theorem byte_gone (g : Nat) (s : ByteArray) (p : Int) (w : World) (h : w.heap[g]? = some (Rd s p)) (hlt : ¬ p < (s.size : Int)) :
    Calls Try.prog 32 #[.pointer (some ⟨g, 0, none⟩)] w fun e w' => e = gives ∧ Drawn0 w w' := by
  have h0 : _ = some (Value.string s) := (blk_cell h 0).trans rfl
  have h1 : _ = some (Value.int .i64 p) := (blk_cell h 1).trans rfl
  have hb : decide (p < (s.size : Int)) = false := decide_eq_false hlt
  clear h
  go_enter Try.func32, Try.ntmps32
  go_wp2
  go_still_tail 11, (by kernel_rfl)
  change wpList _ _ _ _ _ w.drew
  go_wp2_with (go_at_call 31; refine (need_gone _ _).mono ?_; rintro e w1 ⟨he, rfl⟩; unfold gives at he; subst he)
  go_wp2
  exact ⟨rfl, rfl, ⟨⟨1, rfl⟩⟩⟩
end Go.Proofs.Ytlgagjgfenmfeaa.HGive
