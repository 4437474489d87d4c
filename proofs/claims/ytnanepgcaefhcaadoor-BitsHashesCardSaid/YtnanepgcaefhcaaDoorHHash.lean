/- bits.Hash and math/bits.TrailingZeros32: a text's number, and how many 0 bits stand below the lowest 1 bit, wherever the library's table reads as its text lays it. -/
import Derived.Test.YtnanepgcaefhcaaDoorProg
import Derived.Test.YtnanepgcaefhcaaDoorHCore
import Derived.WalkKit
import Derived.KernelRfl
import Derived.Below
import Derived.Lib.ConvBytes
import Derived.Lib.TrailingZeros
import Derived.Lib.LaidTab
import Derived.Laws.BitsAllLaws
import Derived.Deep.LoopGhost
import Derived.Outline
set_option linter.unusedVariables false
set_option linter.unusedSimpArgs false
namespace Go.Proofs.YtnanepgcaefhcaaDoor.HHash
open Go.RowKit Go.Proofs.YtnanepgcaefhcaaDoorW.PrintWords Go.Proofs.YtnanepgcaefhcaaDoorW.PrintLast Go.Proofs.YtnanepgcaefhcaaDoorW.PrintMore Go.Proofs.YtnanepgcaefhcaaDoor.HCore

/-- One byte more of a text's number. -/
def hstep (h : Nat) (b : UInt8) : Nat := (h ^^^ b.toNat) * 1099511628211 % 18446744073709551616
def basis : Nat := 14695981039346656037
theorem basis_int : ((basis : Nat) : Int) = 14695981039346656037 := by unfold basis; simp
theorem basis_lt : basis < 18446744073709551616 := by unfold basis; omega
def hashOf (l : List UInt8) : Nat := l.foldl hstep basis
theorem hstep_lt (h : Nat) (b : UInt8) : hstep h b < 18446744073709551616 := Nat.mod_lt _ (by decide)
theorem hash_lt (l : List UInt8) : ∀ {h : Nat}, h < 18446744073709551616 → l.foldl hstep h < 18446744073709551616 := by
  induction l with
  | nil => intro h hh; exact hh
  | cons b l ih => intro h _; exact ih (hstep_lt h b)
theorem hstep_int (h : Nat) (b : UInt8) (hh : h < 18446744073709551616) : IntKind.u64.wrap (Go.bits .xor .u64 (h : Int) (b.toNat : Int) * 1099511628211) = ((hstep h b : Nat) : Int) := by
  have hb : b.toNat < 256 := b.toNat_lt
  rw [u64_xor_nat h b.toNat hh (by omega), wu64_mod]
  unfold hstep
  omega
theorem ret_u64 {a b : Int} (h : a = b) : Ending.returned (.int .u64 a) = Ending.returned (.int .u64 b) := by rw [h]
theorem below_bytes (w : World) (e : TypeId) (s : ByteArray) : Below w.heap.size w (Lib.bytesWorld w e s) :=
  ⟨rfl, rfl, rfl, by rw [Lib.bytesWorld_size]; omega, fun i hi => Lib.bytesWorld_at_old w e s i hi⟩

/-- The number of the first k bytes. -/
structure St (s : ByteArray) (k h : Nat) : Prop where
  eq : (s.data.toList.take k).foldl hstep basis = h
  lt : h < 18446744073709551616
theorem St.start (s : ByteArray) : St s 0 basis := ⟨by rw [List.take_zero, List.foldl_nil], basis_lt⟩
theorem St.next {s : ByteArray} {k h : Nat} (x : St s k h) (hk : k < s.size) : St s (k + 1) (hstep h (s.data.toList.getD k 0)) := by
  have h1 : k < s.data.toList.length := by rw [size_list]; exact hk
  refine ⟨?_, hstep_lt _ _⟩
  rw [List.take_succ_eq_append_getElem h1, List.foldl_append, x.eq, List.getD_eq_getElem?_getD, List.getElem?_eq_getElem h1, Option.getD_some, List.foldl_cons, List.foldl_nil]
theorem St.last {s : ByteArray} {k h : Nat} (x : St s k h) (hk : ¬ k < s.size) : h = hashOf s.data.toList := by
  rw [← x.eq, List.take_of_length_le (by rw [size_list]; omega), hashOf]
theorem St.int {s : ByteArray} {k h : Nat} (x : St s k h) (b : UInt8) : Value.int .u64 (IntKind.u64.wrap (Go.bits .xor .u64 (h : Int) (b.toNat : Int) * 1099511628211)) = Value.int .u64 ((hstep h b : Nat) : Int) := by rw [hstep_int h b x.lt]
theorem start_val : Value.int .u64 14695981039346656037 = Value.int .u64 ((basis : Nat) : Int) := by rw [basis_int]

set_option maxRecDepth 100000 in
set_option maxHeartbeats 4000000 in
theorem hash_any (s : ByteArray) (w : World) (hs : s.size ≤ 140737488351232) :
    Calls Tryd.prog 13 #[.string s] w fun e w' => e = .returned (.int .u64 ((hashOf s.data.toList : Nat) : Int)) ∧ Below w.heap.size w w' := by
  have hcv := Lib.run_convert_string_bytes (P := Tryd.prog) w 9 24 5 s Tryd.underlying9 Tryd.underlying24 Tryd.underlying5
  have HB := Aside0.mk (below_bytes w 5 s)
  have HC := Aside0.mk (Lib.bytesWorld_cell w 5 s)
  generalize grownCap w s.size 0 5 = cap at hcv
  generalize Lib.bytesWorld w 5 s = W at hcv HB HC
  have hD := Drawn0.refl W
  go_enter Tryd.func13, Tryd.ntmps13
  go_wp2
  clear hcv
  go_loopw [3, 9] (fun v3 v9 wr => ∃ k h : Nat, k ≤ s.size ∧ v9 = .int .i64 k ∧ v3 = .int .u64 (h : Int) ∧ Aside0 (St s k h) ∧ Drawn0 W wr) (fun _ i _ => s.size - (intOf i).toNat)
  case atStart => exact ⟨0, basis, Nat.zero_le _, rfl, start_val, ⟨St.start s⟩, hD⟩
  case round =>
    obtain ⟨k, h, hk, rfl, rfl, HS, hDr⟩ := hrel
    obtain ⟨m, rfl⟩ := hDr
    by_cases hlt : k < s.size
    · have hc : (W.drewN m).cell? ⟨w.heap.size, k, none⟩ = some (.int .u8 (((s.data.toList.getD k 0).toNat : Nat) : Int)) := by
        have := HC.out k hlt
        simpa [World.cell?] using this
      have HN := Aside0.mk (HS.out.next hlt)
      have HI := Aside0.mk (HS.out.int (s.data.toList.getD k 0))
      generalize s.data.toList.getD k 0 = b at HN HI hc
      have hb : b.toNat < 256 := b.toNat_lt
      go_wp2
      go_roundw
      case rel => exact ⟨k + 1, hstep h b, by omega, by simp, HI.out, HN, ⟨⟨m, rfl⟩⟩⟩
      case measure => simp [intOf]; omega
    · have HL := Aside0.mk (HS.out.last hlt)
      go_wp2
      go_ret
      exact ⟨ret_u64 (congrArg (fun n : Nat => (n : Int)) HL.out), pw_below_drewN HB.out m⟩

/-- bits.Hash, as a plain function. -/
def bits_Hash.f (a0 : ByteArray) : Option Int := if a0.size ≤ 140737488351232 then some ((hashOf a0.data.toList : Nat) : Int) else none
theorem bits_Hash.calls (a0 : ByteArray) (r : Int) (w : World) (h : bits_Hash.f a0 = some r) :
    Calls Tryd.prog 13 #[.string a0] w fun e w' => e = .returned (.int .u64 r) ∧ Below w.heap.size w w' := by
  unfold bits_Hash.f at h
  by_cases g : a0.size ≤ 140737488351232
  · rw [if_pos g] at h
    obtain rfl := Option.some.inj h
    exact hash_any a0 w g
  · rw [if_neg g] at h
    cases h

/-- The library's table reads as its text lays it. -/
structure Tab (w : World) : Prop where
  at_ : ∀ j, j < 32 → w.cell? ⟨1, j, none⟩ = some (.int .u8 ((Lib.deBruijn32tab.getD j 0 : Nat) : Int))
theorem Tab.below {w w' : World} (h : Tab w) (hb : Below w.heap.size w w') : Tab w' := ⟨fun j hj => pw_cell_below hb (h.at_ j hj)⟩
theorem Tab.drewN {w : World} (h : Tab w) (n : Nat) : Tab (w.drewN n) := ⟨fun j hj => by
  have := h.at_ j hj
  simpa [World.cell?] using this⟩
theorem Tab.of {w : World} (h : Lib.TabIs Tryd.prog w "math/bits.deBruijn32tab" .u8 [0, 1, 28, 2, 29, 14, 24, 3, 30, 22, 20, 15, 25, 17, 4, 8, 31, 27, 13, 23, 21, 19, 16, 7, 26, 12, 18, 6, 11, 5, 10, 9]) (hg : Tryd.prog.globalNamed "math/bits.deBruijn32tab" = some 1) : Tab w := ⟨fun j hj => by
  have e := h.cell hg j (by simpa using hj)
  rw [e]
  congr 2
  clear e
  revert j
  decide⟩
theorem key32 (x a : Nat) (hx : x < 4294967296) (hlow : x &&& (4294967296 - x) = a) :
    Go.bits .and .u32 (x : Int) (-(x : Int) % 4294967296) * 125613361 % 4294967296 / 134217728 = ((a * 125613361 % 4294967296 / 134217728 : Nat) : Int) := by
  by_cases hx0 : x = 0
  · subst hx0
    simp at hlow
    subst hlow
    decide
  have e1 : -(x : Int) % 4294967296 = ((4294967296 - x : Nat) : Int) := by omega
  rw [e1, u32_and _ _ (by omega) (by omega) (by omega) (by omega)]
  simp only [Int.toNat_natCast]
  rw [hlow]
  omega
set_option maxHeartbeats 1000000 in
theorem tz_walk (X K : Int) (idx : Nat) (w : World) (b1 : (X == 0) = false)
    (key : Go.bits .and .u32 X (-X % 4294967296) * 125613361 % 4294967296 / 134217728 = (idx : Int)) (hi : idx < 32) (hK0 : 0 ≤ K) (hK1 : K ≤ 255) (hcell : w.cell? ⟨1, idx, none⟩ = some (.int .u8 K)) :
    Calls Tryd.prog 40 #[.int .u32 X] w fun e w' => e = .returned (.int .i64 K) ∧ w' = w := by
  go_enter Tryd.func40, Tryd.ntmps40
  go_wp2_with (simp only [key])
  go_ret
  exact ⟨rfl, rfl⟩
theorem tz_any (x : Nat) (hx : x < 4294967296) (hx0 : x ≠ 0) (w : World) (hT : Tab w) :
    Calls Tryd.prog 40 #[.int .u32 (x : Int)] w fun e w' => e = .returned (.int .i64 ((Lib.ctz 32 x : Nat) : Int)) ∧ Drawn0 w w' := by
  obtain ⟨hlow, hk⟩ := Lib.lowest_bit 32 x hx0 hx
  obtain ⟨hi, htab⟩ := Lib.deBruijn32_at _ hk
  have hcell := hT.at_ _ hi
  rw [htab] at hcell
  refine (tz_walk (x : Int) _ _ w (beq_eq_false_iff_ne.2 (by omega)) (key32 x _ hx hlow) hi (by omega) (by omega) hcell).mono ?_
  rintro e w' ⟨rfl, rfl⟩
  exact ⟨rfl, Drawn0.refl _⟩
def math_bits_TrailingZeros32.f (a0 : Int) : Option Int := if 0 < a0 ∧ a0 ≤ 4294967295 then some ((Lib.ctz 32 a0.toNat : Nat) : Int) else none
theorem math_bits_TrailingZeros32.calls (a0 : Int) (r : Int) (w : World) (h : math_bits_TrailingZeros32.f a0 = some r) (hT : Tab w) :
    Calls Tryd.prog 40 #[.int .u32 a0] w fun e w' => e = .returned (.int .i64 r) ∧ Drawn0 w w' := by
  unfold math_bits_TrailingZeros32.f at h
  by_cases g : 0 < a0 ∧ a0 ≤ 4294967295
  · rw [if_pos g] at h
    obtain ⟨x, rfl⟩ := Int.eq_ofNat_of_zero_le (show 0 ≤ a0 by omega)
    obtain rfl := Option.some.inj h
    exact tz_any x (by omega) (by omega) w hT
  · rw [if_neg g] at h
    cases h

end Go.Proofs.YtnanepgcaefhcaaDoor.HHash
