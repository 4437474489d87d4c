/- BitsBack returns true for all texts and numbers: what was laid down between any two texts is read back from where it stands, and a number without its last byte is not read. Condition: the form's own reach (each text at most 2^47 - 4096 bytes). (This text: the walks.) -/
import Derived.Test.YtnanepgcaefhcaaHBlob
import Derived.Test.YtnanepgcaefhcaaHCore2
set_option linter.unusedVariables false
set_option linter.unusedSimpArgs false
namespace Go.Proofs.Ytnanepgcaefhcaa.HBitsBack
open Go.RowKit Go.Proofs.Ytnanepgcaefhcaa.HUv Go.Proofs.Ytnanepgcaefhcaa.HBase Go.Proofs.Ytnanepgcaefhcaa.HBlob Go.Proofs.YtnanepgcaefhcaaW.PrintWords Go.Proofs.YtnanepgcaefhcaaW.PrintLast Go.Proofs.YtnanepgcaefhcaaW.PrintMore Go.Proofs.Ytnanepgcaefhcaa.HCore

theorem num_any (n : Int) (w : World) : Calls Try.prog 13 #[.int .i64 n] w fun e w' => e = .returned (.int .i64 n) ∧ w = w' := by
  go_enter Try.func13, Try.ntmps13
  go_wp2
  go_ret
  exact ⟨rfl, rfl⟩

theorem uvb_pos (v : Nat) : 1 ≤ (uvb v).size := by
  rw [uvb_len]
  rcases Nat.eq_zero_or_pos (uvl 10 v).length with h | h
  · exact absurd (List.eq_nil_of_length_eq_zero h) (uvl_ne (by decide))
  · exact h
theorem toList_ne {s : ByteArray} (h : 1 ≤ s.size) : (s.toList == ([] : List UInt8)) = false := by
  rw [beq_eq_false_iff_ne, toList_data]
  intro e
  rw [← size_list, e] at h
  simp at h

theorem chain {w a b : World} (m : Nat) (h : Below w.heap.size w a) (k : Below (a.drewN m).heap.size (a.drewN m) b) : Below w.heap.size w b := below_then (pw_below_drewN h m) h.size k
theorem chain0 {w a b : World} (h : Below w.heap.size w a) (k : Below a.heap.size a b) : Below w.heap.size w b := below_then h h.size k

/-- What the walk is told of a text that is laid down. -/
structure Laid (h t s : ByteArray) : Prop where
  pos : 1 ≤ s.size
  le : s.size ≤ 10
theorem Laid.c1 {h t s : ByteArray} (l : Laid h t s) (hh : h.size ≤ 140737488351232) : decide (h.size + s.size ≤ 9223372036854775807) = true ∧ (9223372036854775807 < h.size + s.size) = False :=
  ⟨decide_eq_true (by have := l.le; omega), eq_false (by have := l.le; omega)⟩
theorem Laid.c2 {h t s : ByteArray} (l : Laid h t s) (hh : h.size ≤ 140737488351232) (ht : t.size ≤ 140737488351232) : decide ((h ++ s).size + t.size ≤ 9223372036854775807) = true ∧ (9223372036854775807 < (h ++ s).size + t.size) = False :=
  ⟨decide_eq_true (by rw [size_app]; have := l.le; omega), eq_false (by rw [size_app]; have := l.le; omega)⟩

set_option maxRecDepth 100000 in
set_option maxHeartbeats 4000000 in
theorem back_any (h t : ByteArray) (v i n : Int) (w : World) (hh : h.size ≤ 140737488351232) (ht : t.size ≤ 140737488351232) (hv : 0 ≤ v ∧ v ≤ 18446744073709551615) (hi : -9223372036854775808 ≤ i ∧ i ≤ 9223372036854775807) (hn : 0 ≤ n ∧ n ≤ 4294967295) :
    Calls Try.prog 54 #[.string h, .string t, .int .u64 v, .int .i64 i, .int .u32 n] w fun e w' => e = .returned (.bool true) ∧ Below w.heap.size w w' := by
  have HB := Aside0.mk (Below.refl w.heap.size w)
  obtain ⟨s1, e1⟩ : ∃ s, uvb v.toNat = s := ⟨_, rfl⟩
  obtain ⟨s2, e2⟩ : ∃ s, uvb (zig i).toNat = s := ⟨_, rfl⟩
  obtain ⟨s3, e3⟩ : ∃ s, fxb 4 n = s := ⟨_, rfl⟩
  obtain ⟨s4, e4⟩ : ∃ s, fxb 8 v = s := ⟨_, rfl⟩
  have A1 : Aside0 (bits_Uvarint.f v = some s1) := ⟨by unfold bits_Uvarint.f; rw [if_pos hv, e1]⟩
  have A2 : Aside0 (bits_Svarint.f i = some s2) := ⟨by unfold bits_Svarint.f; rw [if_pos hi, e2]⟩
  have A3 : Aside0 (bits_Fixed32.f n = some s3) := ⟨by unfold bits_Fixed32.f; rw [e3]⟩
  have A4 : Aside0 (bits_Fixed64.f v = some s4) := ⟨by unfold bits_Fixed64.f; rw [if_pos hv, e4]⟩
  have l1 : Laid h t s1 := ⟨e1 ▸ uvb_pos _, e1 ▸ uvb_size _⟩
  have l2 : Laid h t s2 := ⟨e2 ▸ uvb_pos _, e2 ▸ uvb_size _⟩
  have z3 : s3.size = 4 := e3 ▸ fxb_len _ _
  have z4 : s4.size = 8 := e4 ▸ fxb_len _ _
  have l3 : Laid h t s3 := ⟨by omega, by omega⟩
  have l4 : Laid h t s4 := ⟨by omega, by omega⟩
  have hsz : ∀ s, Laid h t s → ((h ++ s) ++ t).size ≤ 4611686018427387904 := fun s l => by rw [size_app, size_app]; have := l.le; omega
  have R1 : Aside0 (bits_ReadUvarint.f ((h ++ s1) ++ t) (h.size : Int) = some (v, (h.size : Int) + (s1.size : Int), 0)) := ⟨by
    unfold bits_ReadUvarint.f
    rw [if_pos (hsz s1 l1), ← e1, ruv_back h t v.toNat (by omega), Int.toNat_of_nonneg hv.1]⟩
  have R2 : Aside0 (bits_ReadSvarint.f ((h ++ s2) ++ t) (h.size : Int) = some (i, (h.size : Int) + (s2.size : Int), 0)) := ⟨by
    unfold bits_ReadSvarint.f
    rw [if_pos (hsz s2 l2), ← e2, rsv_back h t i hi]⟩
  have R3 : Aside0 (bits_ReadFixed32.f ((h ++ s3) ++ t) (h.size : Int) = some (n, (h.size : Int) + 4, 0)) := ⟨by
    unfold bits_ReadFixed32.f
    rw [if_pos (hsz s3 l3), ← e3, rfix_back h t 4 n ⟨hn.1, by omega⟩]
    rfl⟩
  have R4 : Aside0 (bits_ReadFixed64.f ((h ++ s4) ++ t) (h.size : Int) = some (v, (h.size : Int) + 8, 0)) := ⟨by
    unfold bits_ReadFixed64.f
    rw [if_pos (hsz s4 l4), ← e4, rfix_back h t 8 v ⟨hv.1, by omega⟩]
    rfl⟩
  have q1 := toList_ne l1.pos
  have q2 := toList_ne l2.pos
  obtain ⟨c11, c12⟩ := l1.c1 hh
  obtain ⟨c13, c14⟩ := l1.c2 hh ht
  obtain ⟨c21, c22⟩ := l2.c1 hh
  obtain ⟨c23, c24⟩ := l2.c2 hh ht
  obtain ⟨c31, c32⟩ := l3.c1 hh
  obtain ⟨c33, c34⟩ := l3.c2 hh ht
  obtain ⟨c41, c42⟩ := l4.c1 hh
  obtain ⟨c43, c44⟩ := l4.c2 hh ht
  have g1 := l1.le
  have g2 := l2.le
  have g3 := l3.le
  have g4 := l4.le
  have z3a : ((s3.size : Int) == 4) = true := beq_iff_eq.2 (by omega)
  have z3b : ((s3.size : Int) != 4) = false := bne_eq_false_iff_eq.2 (by omega)
  have z4a : ((s4.size : Int) == 8) = true := beq_iff_eq.2 (by omega)
  have z4b : ((s4.size : Int) != 8) = false := bne_eq_false_iff_eq.2 (by omega)
  have y31 : decide (h.size + 4 ≤ 9223372036854775807) = true := decide_eq_true (by omega)
  have y32 : (9223372036854775807 < h.size + 4) = False := eq_false (by omega)
  have y33 : decide (h.size + 4 + t.size ≤ 9223372036854775807) = true := decide_eq_true (by omega)
  have y34 : (9223372036854775807 < h.size + 4 + t.size) = False := eq_false (by omega)
  have y41 : decide (h.size + 8 ≤ 9223372036854775807) = true := decide_eq_true (by omega)
  have y42 : (9223372036854775807 < h.size + 8) = False := eq_false (by omega)
  have y43 : decide (h.size + 8 + t.size ≤ 9223372036854775807) = true := decide_eq_true (by omega)
  have y44 : (9223372036854775807 < h.size + 8 + t.size) = False := eq_false (by omega)
  clear e1 e2 e3 e4 hsz z3 z4 l1 l2 l3 l4
  go_enter Try.func54, Try.ntmps54
  go_wp2_with (first
    | (go_at_call 13; (with_reducible refine (num_any _ _).mono ?_); rintro e w' ⟨rfl, rfl⟩)
    | (go_at_call 17; (with_reducible refine (bits_Uvarint.calls _ _ _ A1.out).mono ?_); rintro e w1 ⟨rfl, hb1⟩; have HB1 := Aside0.mk hb1; clear hb1)
    | (go_at_call 44; (with_reducible refine (bits_ReadUvarint.calls _ _ _ _ _ _ R1.out).mono ?_); rintro e w' ⟨rfl, ⟨nd, rfl⟩⟩)
    | (go_at_call 19; (with_reducible refine (bits_Svarint.calls _ _ _ A2.out).mono ?_); rintro e w2 ⟨rfl, hb2⟩; have HB2 := Aside0.mk hb2; clear hb2)
    | (go_at_call 46; (with_reducible refine (bits_ReadSvarint.calls _ _ _ _ _ _ R2.out).mono ?_); rintro e w' ⟨rfl, ⟨nd, rfl⟩⟩)
    | (go_at_call 21; (with_reducible refine (bits_Fixed32.calls _ _ _ A3.out).mono ?_); rintro e w3 ⟨rfl, hb3⟩; have HB3 := Aside0.mk hb3; clear hb3)
    | (go_at_call 48; (with_reducible refine (bits_ReadFixed32.calls _ _ _ _ _ _ R3.out).mono ?_); rintro e w' ⟨rfl, ⟨nd, rfl⟩⟩)
    | (go_at_call 23; (with_reducible refine (bits_Fixed64.calls _ _ _ A4.out).mono ?_); rintro e w4 ⟨rfl, hb4⟩; have HB4 := Aside0.mk hb4; clear hb4)
    | (go_at_call 50; (with_reducible refine (bits_ReadFixed64.calls _ _ _ _ _ _ R4.out).mono ?_); rintro e w' ⟨rfl, ⟨nd, rfl⟩⟩))
  go_ret
  exact ⟨rfl, pw_below_drewN (chain _ (chain _ (chain _ HB1.out HB2.out) HB3.out) HB4.out) _⟩

set_option maxRecDepth 100000 in
set_option maxHeartbeats 4000000 in
theorem law_any (h t : ByteArray) (v i n : Int) (w : World) (hh : h.size ≤ 140737488351232) (ht : t.size ≤ 140737488351232) (hv : 0 ≤ v ∧ v ≤ 18446744073709551615) (hi : -9223372036854775808 ≤ i ∧ i ≤ 9223372036854775807) (hn : 0 ≤ n ∧ n ≤ 4294967295) :
    Calls Try.prog 12 #[.string h, .string t, .int .u64 v, .int .i64 i, .int .u32 n] w fun e w' => e = .returned (.bool true) ∧ Below w.heap.size w w' := by
  obtain ⟨s1, e1⟩ : ∃ s, uvb v.toNat = s := ⟨_, rfl⟩
  have A1 : Aside0 (bits_Uvarint.f v = some s1) := ⟨by unfold bits_Uvarint.f; rw [if_pos hv, e1]⟩
  have l1 : Laid h t s1 := ⟨e1 ▸ uvb_pos _, e1 ▸ uvb_size _⟩
  have hb := fun w => back_any h t v i n w hh ht hv hi hn
  have g1 := l1.le
  have g2 := l1.pos
  have hex : (s1.extract 0 (s1.size - 1)).size ≤ 10 := by rw [ext_size0 _ _ (by omega)]; omega
  have R1 : Aside0 (bits_ReadUvarint.f (h ++ s1.extract 0 (s1.size - 1)) (h.size : Int) = some (0, (h.size : Int), 11)) := ⟨by
    unfold bits_ReadUvarint.f
    rw [if_pos (by rw [app_size]; omega), ← e1, ruv_short h v.toNat (by omega) ((uvb v.toNat).size - 1) (by rw [e1]; omega)]⟩
  have z1 : (9223372036854775807 < h.size + (s1.extract 0 (s1.size - 1)).size) = False := eq_false (by omega)
  have z2 : (9223372036854775807 < h.size + (s1.size - 1)) = False := eq_false (by omega)
  have HBk := Aside0.mk hb
  clear hb e1 l1
  by_cases hbig : t.size > 1048576
  · have c1 : decide (1048576 < (t.size : Int)) = true := decide_eq_true (by omega)
    have c2 : decide (1048576 < t.size) = true := decide_eq_true hbig
    go_enter Try.func12, Try.ntmps12
    go_wp2_with (first
      | (go_at_call 13; (with_reducible refine (num_any _ _).mono ?_); rintro e w' ⟨rfl, rfl⟩)
      | (go_at_call 54; (with_reducible refine (HBk.out _).mono ?_); rintro e w1 ⟨rfl, hb1⟩; have HB1 := Aside0.mk hb1; clear hb1)
      | (go_at_call 17; (with_reducible refine (bits_Uvarint.calls _ _ _ A1.out).mono ?_); rintro e w2 ⟨rfl, hb2⟩; have HB2 := Aside0.mk hb2; clear hb2)
      | (go_at_call 44; (with_reducible refine (bits_ReadUvarint.calls _ _ _ _ _ _ R1.out).mono ?_); rintro e w' ⟨rfl, ⟨nd, rfl⟩⟩))
    go_ret
    exact ⟨rfl, pw_below_drewN (chain0 HB1.out HB2.out) _⟩
  · have c1 : decide (1048576 < (t.size : Int)) = false := decide_eq_false (by omega)
    have c2 : decide (1048576 < t.size) = false := decide_eq_false hbig
    obtain ⟨b, eb⟩ : ∃ b, uvb t.size ++ t = b := ⟨_, rfl⟩
    have A2 : Aside0 (bits_Blob.f t = some (b, 0)) := ⟨by unfold bits_Blob.f blobOf; rw [if_neg hbig, eb]⟩
    have q1 : b.size ≤ 1048586 := by rw [← eb, app_size]; have := uvb_size t.size; omega
    have R2 : Aside0 (bits_ReadBlob.f ((h ++ b) ++ t) (h.size : Int) = some (t, (h.size : Int) + (b.size : Int), 0)) := ⟨by
      unfold bits_ReadBlob.f
      rw [if_pos (by rw [app_size, app_size]; omega), ← eb, rtext_back h t t 1048576 (by omega) (by omega)]⟩
    have q2 : t.size ≤ 1048576 := by omega
    have z3 : (9223372036854775807 < h.size + b.size) = False := eq_false (by omega)
    have z4 : (9223372036854775807 < h.size + b.size + t.size) = False := eq_false (by omega)
    have z5 : (9223372036854775807 < (h ++ b).size + t.size) = False := eq_false (by rw [app_size]; omega)
    clear hbig eb
    go_enter Try.func12, Try.ntmps12
    go_wp2_with (first
      | (go_at_call 13; (with_reducible refine (num_any _ _).mono ?_); rintro e w' ⟨rfl, rfl⟩)
      | (go_at_call 54; (with_reducible refine (HBk.out _).mono ?_); rintro e w1 ⟨rfl, hb1⟩; have HB1 := Aside0.mk hb1; clear hb1)
      | (go_at_call 17; (with_reducible refine (bits_Uvarint.calls _ _ _ A1.out).mono ?_); rintro e w2 ⟨rfl, hb2⟩; have HB2 := Aside0.mk hb2; clear hb2)
      | (go_at_call 44; (with_reducible refine (bits_ReadUvarint.calls _ _ _ _ _ _ R1.out).mono ?_); rintro e w' ⟨rfl, ⟨nd, rfl⟩⟩)
      | (go_at_call 25; (with_reducible refine (bits_Blob.calls _ _ _ _ A2.out).mono ?_); rintro e w3 ⟨rfl, hb3⟩; have HB3 := Aside0.mk hb3; clear hb3)
      | (go_at_call 52; (with_reducible refine (bits_ReadBlob.calls _ _ _ _ _ _ R2.out).mono ?_); rintro e w' ⟨rfl, ⟨nd, rfl⟩⟩))
    go_ret
    exact ⟨rfl, pw_below_drewN (chain _ (chain0 HB1.out HB2.out) HB3.out) _⟩

theorem walk (a0 a1 : ByteArray) (a2 a3 a4 : Int) (w : World) (w0 : a0.size ≤ 140737488351232) (w1 : a1.size ≤ 140737488351232) (w2 : (Lit.int .u64 a2).wf = true) (w3 : (Lit.int .i64 a3).wf = true) (w4 : (Lit.int .u32 a4).wf = true) :
    Calls Try.prog 12 #[.string a0, .string a1, .int .u64 a2, .int .i64 a3, .int .u32 a4] w fun e w' => e = .returned (.bool true) ∧ Below w.heap.size w w' :=
  law_any a0 a1 a2 a3 a4 w w0 w1 (rng_u64 w2) (rng_i64 w3) (rng_u32 w4)

end Go.Proofs.Ytnanepgcaefhcaa.HBitsBack
