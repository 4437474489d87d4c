/- What the functions of layer 1 that read and write numbers come to, and the document's own: plain laws over their printed forms. -/
import Derived.Test.YtnanepgcaefhcaaPBasex
import Derived.Test.YtnanepgcaefhcaaHUv
import Derived.Test.YtnanepgcaefhcaaHCore
set_option linter.unusedVariables false
set_option linter.unusedSimpArgs false
namespace Go.Proofs.Ytnanepgcaefhcaa.HBaseL
open Go.RowKit Go.Proofs.Ytnanepgcaefhcaa.PBase Go.Proofs.Ytnanepgcaefhcaa.HUv Go.Proofs.YtnanepgcaefhcaaW.PrintWords Go.Proofs.YtnanepgcaefhcaaW.PrintLast Go.Proofs.YtnanepgcaefhcaaW.PrintMore Go.Proofs.Ytnanepgcaefhcaa.HCore

/-! ### What is laid down -/
theorem ref_uvarint_loop (d : Nat) : ∀ (x : Nat) (acc : List Int) (k : Nat), x < 128 ^ d → d < k → acc.length + d ≤ 1000 → x < 2 ^ 64 → 1 ≤ d →
    strataref01_Uvarint.l0 k (x : Int) acc = some (strOfNums (acc ++ (uvl d x).map fun (n : Nat) => (n : Int))) := by
  induction d with
  | zero => intro x acc k _ _ _ _ h; omega
  | succ d ih =>
    intro x acc k hx hk hl h64 _
    obtain ⟨k, rfl⟩ : ∃ m, k = m + 1 := ⟨k - 1, by omega⟩
    simp only [strataref01_Uvarint.l0]
    by_cases h : 128 ≤ x
    · have e : uvl (d + 1) x = (x % 128 + 128) :: uvl d (x / 128) := by rw [uvl, if_pos h]
      have hx2 : x / 128 < 128 ^ d := by
        rw [Nat.div_lt_iff_lt_mul (by decide)]
        rw [show 128 ^ (d + 1) = 128 ^ d * 128 from Nat.pow_succ 128 d] at hx
        exact hx
      have hd : 1 ≤ d := by
        rcases Nat.eq_zero_or_pos d with h0 | h0
        · subst h0; simp at hx2; omega
        · exact h0
      rw [if_pos (by omega), if_pos (by omega), tdiv_nn (by omega), tmod_nn (by omega), wu64 (by omega) (by omega), wu64 (by omega) (by omega)]
      rw [show ((x : Int) / 128) = ((x / 128 : Nat) : Int) by omega, show ((x : Int) % 128 + 128) % 256 = ((x % 128 + 128 : Nat) : Int) by omega]
      rw [ih (x / 128) _ k hx2 (by omega) (by simp; omega) (by omega) hd, e]
      simp
    · have e : uvl (d + 1) x = [x] := by rw [uvl, if_neg h]
      rw [if_neg (by omega), if_pos (by omega), e, show (x : Int) % 256 = (x : Int) by omega]
      rfl
theorem ref_uvarint (a : Int) (h : 0 ≤ a ∧ a ≤ 18446744073709551615) : strataref01_Uvarint.f 60 a = some (uvb a.toNat) := by
  obtain ⟨x, rfl⟩ := Int.eq_ofNat_of_zero_le h.1
  unfold strataref01_Uvarint.f
  have hx : x < 2 ^ 64 := by omega
  rw [ref_uvarint_loop 10 x [] 60 (Nat.lt_of_lt_of_le hx (by decide)) (by decide) (by decide) hx (by decide)]
  rfl
theorem bits_svarint (a : Int) (h : -9223372036854775808 ≤ a ∧ a ≤ 9223372036854775807) : bits_Svarint.f a = some (uvb (zig a).toNat) := by
  unfold bits_Svarint.f zig
  have hz : Go.bits .xor .u64 (IntKind.u64.wrap (IntKind.u64.wrap a * 2)) (IntKind.u64.wrap (a / 9223372036854775808)) = if a ≥ 0 then 2 * a else -2 * a - 1 := by
    by_cases g : a ≥ 0
    · rw [if_pos g, show a / 9223372036854775808 = 0 by omega, wu64 (n := a) (by omega) (by omega), wu64 (n := a * 2) (by omega) (by omega), wu64 (n := 0) (by omega) (by omega), xor_u64_0 (by omega) (by omega)]
      omega
    · rw [if_neg g, show a / 9223372036854775808 = -1 by omega, show IntKind.u64.wrap (-1) = 18446744073709551615 from by decide, wu64_mod a, wu64_mod]
      rw [xor_u64_m1 (by omega) (by omega)]
      omega
  rw [hz]
  unfold bits_Uvarint.f
  have hr : 0 ≤ (if a ≥ 0 then 2 * a else -2 * a - 1) ∧ (if a ≥ 0 then 2 * a else -2 * a - 1) ≤ 18446744073709551615 := by split <;> omega
  rw [if_pos hr]
  rfl
theorem ref_svarint (a : Int) (h : -9223372036854775808 ≤ a ∧ a ≤ 9223372036854775807) : strataref01_Svarint.f 60 a = some (uvb (zig a).toNat) := by
  unfold strataref01_Svarint.f zig
  by_cases g : a ≥ 0
  · rw [if_pos g, if_pos g, wu64 (n := a) (by omega) (by omega), wu64 (n := 2 * a) (by omega) (by omega), ref_uvarint _ (by omega)]
    rfl
  · rw [if_neg g, if_neg g, w64 (n := -1 - a) (by omega) (by omega), wu64 (n := -1 - a) (by omega) (by omega), wu64 (n := 2 * (-1 - a)) (by omega) (by omega), wu64 (n := 2 * (-1 - a) + 1) (by omega) (by omega), ref_uvarint _ (by omega)]
    rw [show 2 * (-1 - a) + 1 = -2 * a - 1 by omega]
    rfl
theorem bits_fixed32 (a : Int) : bits_Fixed32.f a = some (fxb 4 a) := by
  unfold bits_Fixed32.f fxb
  simp only [fxl]
  rw [show a / 256 / 256 / 256 = a / 16777216 by omega, show a / 256 / 256 = a / 65536 by omega]
theorem bits_fixed64 (a : Int) (h : 0 ≤ a ∧ a ≤ 18446744073709551615) : bits_Fixed64.f a = some (fxb 8 a) := by
  unfold bits_Fixed64.f
  rw [bits_fixed32, bits_fixed32]
  simp only [Option.bind_some]
  have e : fxb 4 (a % 4294967296) ++ fxb 4 (a / 4294967296 % 4294967296) = fxb 8 a := by
    apply ba_ext
    rw [append_list]
    unfold fxb
    rw [strOfNums_list, strOfNums_list, strOfNums_list, ← List.map_append]
    congr 1
    simp only [fxl, List.cons_append, List.nil_append]
    congr 1
    · omega
    congr 1
    · omega
    congr 1
    · omega
    congr 1
    · omega
    congr 1
    · omega
    congr 1
    · omega
    congr 1
    · omega
    congr 1
    omega
  rw [if_pos (by unfold fxb; rw [strOfNums_len, strOfNums_len]; simp [fxl]), e]
theorem ref_fixed_loop (n : Int) (d : Nat) : ∀ (x : Int) (acc : List Int) (i : Int) (k : Nat), 0 ≤ x → x ≤ 18446744073709551615 → i + d = n → 0 ≤ i → n ≤ 1000 → acc.length ≤ i → d < k →
    strataref01_fixed.l0 k x n acc i = some (strOfNums (acc ++ fxl d x)) := by
  induction d with
  | zero =>
    intro x acc i k h0 h1 hi hp hn ha hk
    obtain ⟨k, rfl⟩ : ∃ m, k = m + 1 := ⟨k - 1, by omega⟩
    simp only [strataref01_fixed.l0]
    rw [if_neg (by omega)]
    simp [fxl]
  | succ d ih =>
    intro x acc i k h0 h1 hi hp hn ha hk
    obtain ⟨k, rfl⟩ : ∃ m, k = m + 1 := ⟨k - 1, by omega⟩
    simp only [strataref01_fixed.l0]
    rw [if_pos (by omega), if_pos (by omega), tdiv_nn h0, tmod_nn h0, wu64 (by omega) (by omega), w64 (by omega) (by omega), ih _ _ _ k (by omega) (by omega) (by omega) (by omega) hn (by simp; omega) (by omega), fxl, show x % 256 % 256 = x % 256 by omega]
    simp
theorem ref_fixed (a : Int) (n : Int) (h : 0 ≤ a ∧ a ≤ 18446744073709551615) (hn : 0 ≤ n ∧ n ≤ 30) : strataref01_fixed.f 60 a n = some (fxb n.toNat a) := by
  unfold strataref01_fixed.f
  rw [ref_fixed_loop n n.toNat a [] 0 60 h.1 h.2 (by omega) (by omega) (by omega) (by simp) (by omega)]
  rfl
theorem ref_fixed32 (a : Int) (h : 0 ≤ a ∧ a ≤ 4294967295) : strataref01_Fixed32.f 60 a = some (fxb 4 a) := by
  unfold strataref01_Fixed32.f
  rw [wu64 (by omega) (by omega), ref_fixed a 4 (by omega) (by decide)]
  rfl
theorem ref_fixed64 (a : Int) (h : 0 ≤ a ∧ a ≤ 18446744073709551615) : strataref01_Fixed64.f 60 a = some (fxb 8 a) := by
  unfold strataref01_Fixed64.f
  rw [ref_fixed a 8 h (by decide)]
  rfl

/-! ### What is read: both texts' functions, as one plain function -/
set_option maxHeartbeats 4000000 in
theorem bits_uv_loop (s : ByteArray) (p : Int) (hs : s.size ≤ 4611686018427387904) (hp : 0 ≤ p) (d : Nat) : ∀ (i k : Nat), d + i = 10 → p + i ≤ s.size → 2 * d < k →
    bits_ReadUvarint.l0 k s p (uval s p i) (i : Int) = some (ruvFrom s p d i) := by
  induction d with
  | zero =>
    intro i k hd hi hk
    obtain ⟨k, rfl⟩ : ∃ m, k = m + 1 := ⟨k - 1, by omega⟩
    simp only [bits_ReadUvarint.l0]
    rw [if_neg (by omega)]; rfl
  | succ d ih =>
    intro i k hd hi hk
    obtain ⟨k, rfl⟩ : ∃ m, k = m + 2 := ⟨k - 2, by omega⟩
    have hw : wrap64 (p + (i : Int)) = p + i := w64 (by omega) (by omega)
    have hb := bt_rng s (p + i)
    obtain ⟨hp1, hp2, hp3, hp4⟩ := pow128 i (by omega)
    have hu := uval_lt s p i
    have hq := pow128_pos i
    -- the next worth
    have hand : Go.bits .and .u8 (bt s (p + i)) 127 = bt s (p + i) % 128 := bits_mask .u8 8 (by decide) wraps_u8 7 (by decide) _ hb.1 (by omega)
    have h7 : wrap64 (7 * (i : Int)) = ((7 * i : Nat) : Int) := by rw [w64 (by omega) (by omega)]; omega
    have hval : ¬ (i = 9 ∧ bt s (p + i) > 1) → Go.bits .or .u64 (uval s p i) (shl .u64 (IntKind.u64.wrap (Go.bits .and .u8 (bt s (p + i)) 127)) (wrap64 (7 * (i : Int)))) = uval s p (i + 1) := by
      intro hn
      rw [hand, wu64 (by omega) (by omega), h7]
      have hx : 0 ≤ (bt s (p + i) % 128) * 128 ^ i ∧ (bt s (p + i) % 128) * 128 ^ i ≤ 9223372036854775808 := by
        refine ⟨Int.mul_nonneg (by omega) (by omega), ?_⟩
        by_cases h9 : i = 9
        · have hb1 : bt s (p + i) % 128 ≤ 1 := by omega
          have := Int.mul_le_mul_of_nonneg_right hb1 (show (0 : Int) ≤ 128 ^ i by omega)
          omega
        · have hb1 : bt s (p + i) % 128 ≤ 127 := by omega
          have := Int.mul_le_mul_of_nonneg_right hb1 (show (0 : Int) ≤ 128 ^ i by omega)
          have := hp4 (by omega)
          omega
      have hsh : shl .u64 (bt s (p + i) % 128) ((7 * i : Nat) : Int) = (bt s (p + i) % 128) * 128 ^ i := by
        unfold shl
        rw [show min ((7 * i : Nat) : Int).toNat IntKind.u64.bits = 7 * i by simp [IntKind.bits]; omega, hp1, wu64 hx.1 (by omega)]
      rw [hsh, u64_or _ _ hu.1 (by omega) hx.1 (by omega), Nat.or_comm]
      have hj : ((bt s (p + i) % 128) * 128 ^ i).toNat ||| (uval s p i).toNat = ((bt s (p + i) % 128) * 128 ^ i).toNat + (uval s p i).toNat := by
        refine nat_join (7 * i) _ _ ?_ ?_
        · rw [hp2]
          obtain ⟨b, hb'⟩ := Int.eq_ofNat_of_zero_le (show 0 ≤ bt s (p + i) % 128 by omega)
          rw [hb']
          have : ((b : Int) * 128 ^ i).toNat = b * 128 ^ i := by
            have e : ((b : Int) * 128 ^ i) = ((b * 128 ^ i : Nat) : Int) := by simp
            rw [e, Int.toNat_natCast]
          rw [this]; exact Nat.mul_mod_left _ _
        · rw [hp2]
          have e : (((128 ^ i : Nat)) : Int) = (128 : Int) ^ i := by simp
          omega
      rw [hj]
      simp only [uval]
      omega
    have hj2 : ∀ x : Bool, (x = true → i = 9 ∧ bt s (p + i) > 1) → (x = false → ¬ (i = 9 ∧ bt s (p + i) > 1)) → p + i ≠ s.size →
        bits_ReadUvarint.j2 (k + 1) s p (uval s p i) (i : Int) (bt s (p + i)) (i : Int) x = some (ruvFrom s p (d + 1) i) := by
      intro x hx1 hx0 hne
      simp only [bits_ReadUvarint.j2, ruvFrom]
      rw [if_neg hne]
      cases x with
      | true => rw [if_pos (by first | rfl | trivial), if_pos (hx1 rfl)]
      | false =>
        have hn := hx0 rfl
        rw [if_neg (by decide), if_neg hn, h7, if_pos (by omega), ← h7, hval hn, hw]
        have hw2 : wrap64 (p + (i : Int) + 1) = p + i + 1 := w64 (by omega) (by omega)
        by_cases hc : bt s (p + i) < 128
        · rw [if_pos hc, if_pos hc]
          by_cases hz : bt s (p + i) = 0
          · rw [if_pos hz]
            by_cases hi0 : (i : Int) > 0
            · rw [if_pos hi0, if_pos ⟨hz, by omega⟩]
            · rw [if_neg hi0, if_neg (fun h => hi0 (by have := h.2; omega)), hw2]
          · rw [if_neg hz, if_neg (fun h => hz h.1), hw2]
        · rw [if_neg hc, if_neg hc]
          clear hval hand hp1 hp2 hp3 hp4 hu hq
          have hw3 : wrap64 ((i : Int) + 1) = ((i + 1 : Nat) : Int) := by rw [w64 (by omega) (by omega)]; omega
          rw [hw3]
          exact ih (i + 1) k (by omega) (by omega) (by omega)
    clear hval hand hp1 hp2 hp3 hp4 hu hq
    rw [show k + 2 = (k + 1) + 1 from rfl]
    conv => lhs; simp only [bits_ReadUvarint.l0]
    rw [if_pos (show (i : Int) < 10 by omega), hw]
    by_cases hne : p + i = s.size
    · rw [if_pos hne]; simp only [ruvFrom]; rw [if_pos hne]
    · rw [if_neg hne, if_pos (by omega), if_pos (by omega)]
      by_cases h9 : (i : Int) = 9
      · rw [if_pos h9]
        refine hj2 _ (fun h => ⟨by omega, of_decide_eq_true h⟩) (fun h hh => ?_) hne
        exact absurd hh.2 (of_decide_eq_false h)
      · rw [if_neg h9]
        exact hj2 _ (fun h => by cases h) (fun _ hh => h9 (by omega)) hne

theorem bits_uv (s : ByteArray) (p : Int) (hs : s.size ≤ 4611686018427387904) (k : Nat) (hk : 40 ≤ k) : bits_ReadUvarint.f k s p = some (ruv s p) := by
  obtain ⟨k, rfl⟩ : ∃ m, k = m + 1 := ⟨k - 1, by omega⟩
  unfold bits_ReadUvarint.f ruv
  simp only [bits_ReadUvarint.j0]
  by_cases h : p < 0
  · rw [if_pos h, if_pos (by first | rfl | trivial), if_pos (Or.inl h)]
  · rw [if_neg h]
    by_cases h2 : p > (s.size : Int)
    · rw [decide_eq_true h2, if_pos (by first | rfl | trivial), if_pos (Or.inr h2)]
    · rw [decide_eq_false h2, if_neg (by decide), if_neg (by omega)]
      exact bits_uv_loop s p hs (by omega) 10 0 k rfl (by simp; omega) (by omega)

theorem ref_uv_l1 (s : ByteArray) (p : Int) (n : Nat) (hs : s.size ≤ 4611686018427387904) (hp : 0 ≤ p) (hn : p + n < s.size) (t : Nat) : ∀ (acc : Int) (k : Nat), 0 ≤ acc → t ≤ n + 1 → t < k →
    acc * 128 ^ t + uval s p t ≤ 18446744073709551615 →
    strataref01_ReadUvarint.l1 k s p (n : Int) acc ((t : Int) - 1) = some (acc * 128 ^ t + uval s p t, p + n + 1, 0) := by
  induction t with
  | zero =>
    intro acc k ha ht hk hb
    obtain ⟨k, rfl⟩ : ∃ m, k = m + 1 := ⟨k - 1, by omega⟩
    simp only [strataref01_ReadUvarint.l1]
    rw [if_neg (by simp), w64 (n := p + n) (by omega) (by omega), w64 (by omega) (by omega)]
    simp [uval]
  | succ t ih =>
    intro acc k ha ht hk hb
    obtain ⟨k, rfl⟩ : ∃ m, k = m + 1 := ⟨k - 1, by omega⟩
    simp only [strataref01_ReadUvarint.l1]
    have e0 : ((t + 1 : Nat) : Int) - 1 = (t : Int) := by omega
    have hbt := bt_rng s (p + t)
    rw [e0, if_pos (by omega), w64 (n := p + t) (by omega) (by omega), if_pos (by omega), if_pos (by omega), tmod_nn hbt.1]
    have hq := pow128_pos t
    have hpw : (128 : Int) ^ (t + 1) = 128 * 128 ^ t := by rw [Int.pow_succ, Int.mul_comm]
    have hu := uval_lt s p t
    have hsum : acc * 128 ^ (t + 1) + uval s p (t + 1) = (acc * 128 + bt s (p + t) % 128) * 128 ^ t + uval s p t := by
      simp only [uval]
      rw [hpw, Int.add_mul, Int.mul_assoc]
      omega
    have hle : acc * 128 + bt s (p + t) % 128 ≤ 18446744073709551615 := by
      have h1 : (acc * 128 + bt s (p + t) % 128) * 1 ≤ (acc * 128 + bt s (p + t) % 128) * 128 ^ t := Int.mul_le_mul_of_nonneg_left (by omega) (by omega)
      omega
    rw [wu64 (n := acc * 128) (by omega) (by omega), wu64 (n := bt s (p + t) % 128) (by omega) (by omega), wu64 (by omega) hle, w64 (by omega) (by omega), hsum]
    exact ih _ k (by omega) (by omega) (by omega) (by omega)

set_option maxHeartbeats 4000000 in
theorem ref_uv_loop (s : ByteArray) (p : Int) (hs : s.size ≤ 4611686018427387904) (hp : 0 ≤ p) (d : Nat) : ∀ (i k : Nat), d + i = 10 → p + i ≤ s.size → d + 20 < k →
    strataref01_ReadUvarint.l0 k s p (i : Int) = some (ruvFrom s p d i) := by
  induction d with
  | zero =>
    intro i k hd hi hk
    obtain ⟨k, rfl⟩ : ∃ m, k = m + 4 := ⟨k - 4, by omega⟩
    obtain rfl : i = 10 := by omega
    simp only [strataref01_ReadUvarint.l0]
    rw [if_neg (by decide)]
    simp only [strataref01_ReadUvarint.j1]
    rw [if_neg (by decide)]
    simp only [strataref01_ReadUvarint.j2]
    rw [if_neg (by decide), if_pos (by first | rfl | trivial)]
    simp only [strataref01_ReadUvarint.j3]
    rfl
  | succ d ih =>
    intro i k hd hi hk
    obtain ⟨k, rfl⟩ : ∃ m, k = m + 1 := ⟨k - 1, by omega⟩
    have hw : wrap64 (p + (i : Int)) = p + i := w64 (by omega) (by omega)
    have hb := bt_rng s (p + i)
    simp only [strataref01_ReadUvarint.l0]
    rw [if_pos (show (i : Int) < 10 by omega), hw]
    by_cases hne : p + i = s.size
    · rw [if_neg (by omega)]
      obtain ⟨k, rfl⟩ : ∃ m, k = m + 2 := ⟨k - 2, by omega⟩
      simp only [strataref01_ReadUvarint.j1]
      rw [if_pos (show (i : Int) < 10 by omega), hw, beq_iff_eq.2 hne]
      simp only [strataref01_ReadUvarint.j2, ruvFrom]
      rw [if_pos (by first | rfl | trivial), if_pos hne]
    · rw [if_pos (by omega), if_pos (by omega)]
      by_cases hbig : bt s (p + i) > 127
      · rw [if_pos hbig]
        have hw3 : wrap64 ((i : Int) + 1) = ((i + 1 : Nat) : Int) := by rw [w64 (by omega) (by omega)]; omega
        rw [hw3, ih (i + 1) k (by omega) (by omega) (by omega)]
        by_cases h9 : i = 9
        · obtain rfl : d = 0 := by omega
          simp only [ruvFrom]
          rw [if_neg hne, if_pos ⟨h9, by omega⟩]
        · conv => rhs; simp only [ruvFrom]
          rw [if_neg hne, if_neg (fun h => h9 h.1), if_neg (by omega)]
      · rw [if_neg hbig]
        obtain ⟨k, rfl⟩ : ∃ m, k = m + 4 := ⟨k - 4, by omega⟩
        have hj4 : ∀ x : Bool, ¬ (i = 9 ∧ bt s (p + i) > 1) → (x = true ↔ (bt s (p + i) = 0 ∧ i > 0)) → strataref01_ReadUvarint.j4 (k + 1) s p (i : Int) x = some (ruvFrom s p (d + 1) i) := by
          intro x hn hx
          simp only [strataref01_ReadUvarint.j4, ruvFrom]
          rw [if_neg hne, if_neg hn, if_pos (show bt s (p + i) < 128 by omega)]
          cases x with
          | true => rw [if_pos (by first | rfl | trivial), if_pos (hx.1 rfl)]
          | false =>
            rw [if_neg (show ¬ (false = true) by decide), if_neg (show ¬ (bt s (p + i) = 0 ∧ i > 0) from fun h => by have := hx.2 h; cases this)]
            have := ref_uv_l1 s p i hs hp (by omega) (i + 1) 0 k (by omega) (by omega) (by omega) (by
              have g := ruvFrom_good s p hp (d + 1) i hd hi
              simp only [ruvFrom] at g
              rw [if_neg hne, if_neg hn, if_pos (by omega), if_neg (fun h => by have := hx.2 h; cases this)] at g
              rcases g with g | g
              · have := g.2.2.1; simp only at this; omega
              · exact absurd rfl g.1)
            rw [show (((i + 1 : Nat) : Int) - 1) = (i : Int) by omega] at this
            rw [this]; simp
        have hj3 : ∀ x : Bool, (x = true ↔ (i = 9 ∧ bt s (p + i) > 1)) → strataref01_ReadUvarint.j3 (k + 2) s p (i : Int) x = some (ruvFrom s p (d + 1) i) := by
          intro x hx
          simp only [strataref01_ReadUvarint.j3]
          cases x with
          | true =>
            rw [if_pos (by first | rfl | trivial)]
            simp only [ruvFrom]
            rw [if_neg hne, if_pos (hx.1 rfl)]
          | false =>
            have hn : ¬ (i = 9 ∧ bt s (p + i) > 1) := fun h => by have := hx.2 h; cases this
            rw [if_neg (by decide), hw]
            by_cases h0 : (i : Int) > 0
            · rw [if_pos h0, if_pos (by omega), if_pos (by omega)]
              refine hj4 _ hn ⟨fun h => ⟨by simpa using h, by omega⟩, fun h => by simpa using h.1⟩
            · rw [if_neg h0]
              exact hj4 _ hn ⟨fun h => (by cases h), fun h => absurd h.2 (by omega)⟩
        simp only [strataref01_ReadUvarint.j1]
        rw [if_pos (show (i : Int) < 10 by omega), hw, beq_eq_false_iff_ne.2 hne]
        simp only [strataref01_ReadUvarint.j2]
        rw [if_neg (by decide), if_neg (by omega)]
        by_cases h9 : (i : Int) = 9
        · have h9' : i = 9 := by omega
          subst h9'
          rw [if_pos h9]
          have hw9 : wrap64 (p + 9) = p + 9 := hw
          rw [hw9, if_pos (by omega), if_pos (by omega)]
          exact hj3 _ ⟨fun h => ⟨rfl, of_decide_eq_true h⟩, fun h => decide_eq_true h.2⟩
        · rw [if_neg h9]
          exact hj3 _ ⟨fun h => (by cases h), fun h => absurd h.1 (by omega)⟩

theorem ref_uv (s : ByteArray) (p : Int) (hs : s.size ≤ 4611686018427387904) (k : Nat) (hk : 40 ≤ k) : strataref01_ReadUvarint.f k s p = some (ruv s p) := by
  unfold strataref01_ReadUvarint.f strataref01_within.f ruv
  by_cases h : p < 0
  · rw [if_neg (by omega), if_pos (Or.inl h)]; rfl
  · rw [if_pos (by omega)]
    simp only [Option.bind_some]
    by_cases h2 : p > (s.size : Int)
    · rw [decide_eq_false (by omega), if_neg (by decide), if_pos (Or.inr h2)]
    · rw [decide_eq_true (by omega), if_pos (by first | rfl | trivial), if_neg (by omega)]
      exact ref_uv_loop s p hs (by omega) 10 0 k rfl (by simp; omega) (by omega)

theorem bits_sv (s : ByteArray) (p : Int) (hs : s.size ≤ 4611686018427387904) (k : Nat) (hk : 40 ≤ k) : bits_ReadSvarint.f k s p = some (rsv s p) := by
  unfold bits_ReadSvarint.f rsv
  rw [bits_uv s p hs k hk]
  simp only [Option.bind_some]
  have g := ruv_good s p
  generalize ruv s p = r at g
  obtain ⟨u, n, e⟩ := r
  simp only at g ⊢
  by_cases he : e = 0
  · have hu : 0 ≤ u ∧ u ≤ 18446744073709551615 := by omega
    rw [if_pos he, if_pos he, and_1 hu.1 hu.2, w64 (n := u / 2) (by omega) (by omega), w64 (n := u % 2) (by omega) (by omega), w64 (by omega) (by omega)]
    unfold unzig
    by_cases h2 : u % 2 = 0
    · rw [if_pos h2, h2, show -(0 : Int) = 0 from rfl, xor_i64_0 (by omega) (by omega)]
    · rw [if_neg h2, show u % 2 = 1 by omega, xor_i64_m1 (by omega) (by omega)]
  · rw [if_neg he, if_neg he]

theorem ref_sv (s : ByteArray) (p : Int) (hs : s.size ≤ 4611686018427387904) (k : Nat) (hk : 40 ≤ k) : strataref01_ReadSvarint.f k s p = some (rsv s p) := by
  unfold strataref01_ReadSvarint.f rsv
  rw [ref_uv s p hs k hk]
  simp only [Option.bind_some]
  have g := ruv_good s p
  generalize ruv s p = r at g
  obtain ⟨u, n, e⟩ := r
  simp only at g ⊢
  by_cases he : e = 0
  · have hu : 0 ≤ u ∧ u ≤ 18446744073709551615 := by omega
    rw [if_pos he, if_pos he, tmod_nn hu.1, tdiv_nn hu.1, wu64 (by omega) (by omega), w64 (n := u / 2) (by omega) (by omega), w64 (by omega) (by omega)]
    unfold unzig
    by_cases h2 : u % 2 = 0
    · rw [if_pos h2, if_pos h2]
    · rw [if_neg h2, if_neg h2]
  · rw [if_neg he, if_neg he]

theorem or_u32_add (x y : Int) (i : Nat) (hx : 0 ≤ x) (hx1 : x < 2 ^ i) (hy : 0 ≤ y) (hy1 : y < 4294967296) (hi : i ≤ 31) (hm : y % 2 ^ i = 0) : Go.bits .or .u32 x y = x + y := by
  have hp : (2 : Int) ^ i ≤ 2 ^ 31 := by
    have h : (2 : Nat) ^ i ≤ 2 ^ 31 := Nat.pow_le_pow_right (by decide) hi
    exact_mod_cast h
  obtain ⟨a, rfl⟩ := Int.eq_ofNat_of_zero_le hx
  obtain ⟨b, rfl⟩ := Int.eq_ofNat_of_zero_le hy
  rw [u32_or _ _ (by omega) (by omega) (by omega) (by omega)]
  simp only [Int.toNat_natCast]
  rw [Nat.or_comm, nat_join i b a (by exact_mod_cast hm) (by exact_mod_cast hx1)]
  omega

theorem fval_4 (s : ByteArray) (p : Int) : fval s p 4 = bt s p + bt s (p + 1) * 256 + bt s (p + 2) * 65536 + bt s (p + 3) * 16777216 := by
  show (((0 + bt s (p + ((0 : Nat) : Int)) * 256 ^ 0) + bt s (p + ((1 : Nat) : Int)) * 256 ^ 1) + bt s (p + ((2 : Nat) : Int)) * 256 ^ 2) + bt s (p + ((3 : Nat) : Int)) * 256 ^ 3 = _
  rw [show p + ((0 : Nat) : Int) = p by omega]
  show (((0 + bt s p * 1) + bt s (p + 1) * 256) + bt s (p + 2) * 65536) + bt s (p + 3) * 16777216 = _
  omega

theorem bits_f32 (s : ByteArray) (p : Int) (hs : s.size ≤ 4611686018427387904) (k : Nat) (hk : 1 ≤ k) : bits_ReadFixed32.f k s p = some (rfix s p 4) := by
  obtain ⟨k, rfl⟩ : ∃ m, k = m + 1 := ⟨k - 1, by omega⟩
  unfold bits_ReadFixed32.f
  simp only [bits_ReadFixed32.j0]
  by_cases h : p < 0
  · rw [if_pos h, if_pos (by first | rfl | trivial), rfix_out 4 (Or.inl h)]
  · rw [if_neg h]
    by_cases h2 : p > (s.size : Int)
    · rw [decide_eq_true h2, if_pos (by first | rfl | trivial), rfix_out 4 (Or.inr h2)]
    · rw [decide_eq_false h2, if_neg (by decide), w64 (by omega) (by omega)]
      by_cases h3 : (s.size : Int) - p < 4
      · rw [if_pos h3, rfix_short (by omega) (show (s.size : Int) - p < (4 : Nat) from h3)]
      · rw [if_neg h3, rfix_ok (by omega) (show ¬ (s.size : Int) - p < (4 : Nat) from h3), w64 (n := p + 1) (by omega) (by omega), w64 (n := p + 2) (by omega) (by omega), w64 (n := p + 3) (by omega) (by omega), w64 (n := p + 4) (by omega) (by omega)]
        rw [if_pos (by omega), if_pos (by omega), if_pos (by omega), if_pos (by omega), if_pos (by omega), if_pos (by omega), if_pos (by omega), if_pos (by omega)]
        have b0 := bt_rng s p
        have b1 := bt_rng s (p + 1)
        have b2 := bt_rng s (p + 2)
        have b3 := bt_rng s (p + 3)
        rw [show bt s p % 4294967296 = bt s p by omega, show bt s (p + 1) % 4294967296 * 256 % 4294967296 = bt s (p + 1) * 256 by omega, show bt s (p + 2) % 4294967296 * 65536 % 4294967296 = bt s (p + 2) * 65536 by omega, show bt s (p + 3) % 4294967296 * 16777216 % 4294967296 = bt s (p + 3) * 16777216 by omega]
        rw [or_u32_add (bt s p) _ 8 (by omega) (by omega) (by omega) (by omega) (by decide) (by omega), or_u32_add (bt s p + bt s (p + 1) * 256) _ 16 (by omega) (by omega) (by omega) (by omega) (by decide) (by omega), or_u32_add (bt s p + bt s (p + 1) * 256 + bt s (p + 2) * 65536) _ 24 (by omega) (by omega) (by omega) (by omega) (by decide) (by omega), fval_4]
        rfl

theorem ref_fix_loop (s : ByteArray) (p : Int) (n : Nat) (hs : s.size ≤ 4611686018427387904) (hp : 0 ≤ p) (hn : p + n ≤ s.size) (t : Nat) : ∀ (acc : Int) (k : Nat), 0 ≤ acc → t ≤ n → t < k →
    acc * 256 ^ t + fval s p t ≤ 18446744073709551615 →
    strataref01_readFixed.l0 k s p (n : Int) acc ((t : Int) - 1) = some (acc * 256 ^ t + fval s p t, p + n, 0) := by
  induction t with
  | zero =>
    intro acc k ha ht hk hb
    obtain ⟨k, rfl⟩ : ∃ m, k = m + 1 := ⟨k - 1, by omega⟩
    simp only [strataref01_readFixed.l0]
    rw [if_neg (by simp), w64 (by omega) (by omega)]
    simp [fval]
  | succ t ih =>
    intro acc k ha ht hk hb
    obtain ⟨k, rfl⟩ : ∃ m, k = m + 1 := ⟨k - 1, by omega⟩
    simp only [strataref01_readFixed.l0]
    have e0 : ((t + 1 : Nat) : Int) - 1 = (t : Int) := by omega
    have hbt := bt_rng s (p + t)
    rw [e0, if_pos (by omega), w64 (n := p + t) (by omega) (by omega), if_pos (by omega), if_pos (by omega)]
    have hq := pow256_pos t
    have hpw : (256 : Int) ^ (t + 1) = 256 * 256 ^ t := by rw [Int.pow_succ, Int.mul_comm]
    have hu := fval_lt s p t
    have hsum : acc * 256 ^ (t + 1) + fval s p (t + 1) = (acc * 256 + bt s (p + t)) * 256 ^ t + fval s p t := by
      simp only [fval]
      rw [hpw, Int.add_mul, Int.mul_assoc]
      omega
    have hle : acc * 256 + bt s (p + t) ≤ 18446744073709551615 := by
      have h1 : (acc * 256 + bt s (p + t)) * 1 ≤ (acc * 256 + bt s (p + t)) * 256 ^ t := Int.mul_le_mul_of_nonneg_left (by omega) (by omega)
      omega
    rw [wu64 (n := acc * 256) (by omega) (by omega), wu64 (n := bt s (p + t)) (by omega) (by omega), wu64 (by omega) hle, w64 (by omega) (by omega), hsum]
    exact ih _ k (by omega) (by omega) (by omega) (by omega)

theorem ref_fix (s : ByteArray) (p : Int) (n : Nat) (hn : n ≤ 8) (hs : s.size ≤ 4611686018427387904) (k : Nat) (hk : 40 ≤ k) : strataref01_readFixed.f k s p (n : Int) = some (rfix s p n) := by
  unfold strataref01_readFixed.f strataref01_within.f rfix
  by_cases h : p < 0
  · rw [if_neg (by omega), if_pos (Or.inl h)]; rfl
  · rw [if_pos (by omega)]
    simp only [Option.bind_some]
    by_cases h2 : p > (s.size : Int)
    · rw [decide_eq_false (by omega), if_neg (by decide), if_pos (Or.inr h2)]
    · rw [decide_eq_true (by omega), if_pos (by first | rfl | trivial), if_neg (show ¬ (p < 0 ∨ p > (s.size : Int)) by omega), w64 (by omega) (by omega)]
      by_cases h3 : (s.size : Int) - p < n
      · rw [if_pos h3, if_pos h3]
      · rw [if_neg h3, if_neg h3, w64 (by omega) (by omega)]
        have hf := fval_lt s p n
        have hpw : (256 : Int) ^ n ≤ 18446744073709551616 := by
          have h : (256 : Nat) ^ n ≤ 18446744073709551616 := Nat.le_trans (Nat.pow_le_pow_right (by decide) hn) (by decide)
          have e : ((256 ^ n : Nat) : Int) = (256 : Int) ^ n := Int.natCast_pow 256 n
          omega
        rw [ref_fix_loop s p n hs (by omega) (by omega) n 0 k (by omega) (by omega) (by omega) (by omega)]
        simp

theorem ref_f32 (s : ByteArray) (p : Int) (hs : s.size ≤ 4611686018427387904) (k : Nat) (hk : 40 ≤ k) : strataref01_ReadFixed32.f k s p = some (rfix s p 4) := by
  unfold strataref01_ReadFixed32.f
  have h := ref_fix s p 4 (by decide) hs k hk
  have h' : strataref01_readFixed.f k s p 4 = some (rfix s p 4) := h
  rw [h']
  simp only [Option.bind_some]
  have hf := fval_lt s p 4
  have e : (rfix s p 4).1 % 4294967296 = (rfix s p 4).1 := by
    unfold rfix
    split
    · rfl
    · split
      · rfl
      · simp only
        omega
  rw [e]

theorem fval_8 (s : ByteArray) (p : Int) : fval s p 8 = fval s p 4 + fval s (p + 4) 4 * 4294967296 := by
  rw [fval_4 s (p + 4)]
  show (((fval s p 4 + bt s (p + ((4 : Nat) : Int)) * 256 ^ 4) + bt s (p + ((5 : Nat) : Int)) * 256 ^ 5) + bt s (p + ((6 : Nat) : Int)) * 256 ^ 6) + bt s (p + ((7 : Nat) : Int)) * 256 ^ 7 = _
  rw [show p + ((4 : Nat) : Int) = p + 4 from rfl, show p + ((5 : Nat) : Int) = p + 4 + 1 by omega, show p + ((6 : Nat) : Int) = p + 4 + 2 by omega, show p + ((7 : Nat) : Int) = p + 4 + 3 by omega]
  show (((fval s p 4 + bt s (p + 4) * 4294967296) + bt s (p + 4 + 1) * 1099511627776) + bt s (p + 4 + 2) * 281474976710656) + bt s (p + 4 + 3) * 72057594037927936 = _
  omega

theorem bits_f64 (s : ByteArray) (p : Int) (hs : s.size ≤ 4611686018427387904) (k : Nat) (hk : 1 ≤ k) : bits_ReadFixed64.f k s p = some (rfix s p 8) := by
  unfold bits_ReadFixed64.f
  rw [bits_f32 s p hs k hk]
  simp only [Option.bind_some]
  by_cases h : p < 0 ∨ p > s.size
  · rw [rfix_out 4 h, rfix_out 8 h]
    rfl
  · by_cases h3 : (s.size : Int) - p < 4
    · rw [rfix_short h (show (s.size : Int) - p < (4 : Nat) from h3), rfix_short h (show (s.size : Int) - p < (8 : Nat) by show _ < (8 : Int); omega)]
      rfl
    · rw [rfix_ok h (show ¬ (s.size : Int) - p < (4 : Nat) from h3)]
      show (if (0 : Int) = 0 then _ else _) = _
      rw [if_pos rfl]
      show (bits_ReadFixed32.f k s (p + 4)).bind _ = _
      rw [bits_f32 s (p + 4) hs k hk]
      simp only [Option.bind_some]
      by_cases h4 : (s.size : Int) - p < 8
      · rw [rfix_short (by omega) (show (s.size : Int) - (p + 4) < (4 : Nat) by show _ < (4 : Int); omega), rfix_short h (show (s.size : Int) - p < (8 : Nat) from h4)]
        rfl
      · rw [rfix_ok (by omega) (show ¬ (s.size : Int) - (p + 4) < (4 : Nat) by show ¬ _ < (4 : Int); omega), rfix_ok h (show ¬ (s.size : Int) - p < (8 : Nat) from h4)]
        show (if (0 : Int) = 0 then _ else _) = _
        rw [if_pos rfl]
        have f1 := fval_lt s p 4
        have f2 := fval_lt s (p + 4) 4
        simp only [show (256 : Int) ^ 4 = 4294967296 from rfl] at f1 f2
        rw [fval_8]
        show some (Go.bits .or .u64 (IntKind.u64.wrap (IntKind.u64.wrap (fval s (p + 4) 4) * 4294967296)) (IntKind.u64.wrap (fval s p 4)), p + 4 + 4, 0) = _
        rw [wu64 (n := fval s (p + 4) 4) (by omega) (by omega), wu64 (n := fval s p 4) (by omega) (by omega), wu64 (by omega) (by omega)]
        generalize fval s p 4 = a at f1
        generalize fval s (p + 4) 4 = b at f2
        rw [u64_or _ _ (by omega) (by omega) (by omega) (by omega), nat_join 32 _ _ (by omega) (by omega), show p + 4 + 4 = p + 8 by omega]
        show some (_, p + 8, (0 : Int)) = some (_, p + 8, (0 : Int))
        congr 2
        omega

theorem ref_f64 (s : ByteArray) (p : Int) (hs : s.size ≤ 4611686018427387904) (k : Nat) (hk : 40 ≤ k) : strataref01_ReadFixed64.f k s p = some (rfix s p 8) := by
  unfold strataref01_ReadFixed64.f
  have h : strataref01_readFixed.f k s p 8 = some (rfix s p 8) := ref_fix s p 8 (by decide) hs k hk
  rw [h]
  simp only [Option.bind_some]

theorem bits_bd (s : ByteArray) (p most : Int) (hs : s.size ≤ 4611686018427387904) (hm : 0 ≤ most ∧ most ≤ 1048576) (k : Nat) (hk : 40 ≤ k) : bits_bounded.f k s p most = some (rtext s p most) := by
  unfold bits_bounded.f rtext
  rw [bits_uv s p hs k hk]
  simp only [Option.bind_some]
  have g := ruv_good s p
  generalize ruv s p = r at g
  obtain ⟨u, n, e⟩ := r
  simp only at g ⊢
  by_cases he : e = 0
  · rw [if_pos he, if_pos he]
    by_cases h1 : u > most
    · rw [if_pos h1, if_pos h1]
    · rw [if_neg h1, if_neg h1, w64 (n := (s.size : Int) - n) (by omega) (by omega), wu64 (by omega) (by omega)]
      by_cases h2 : u > (s.size : Int) - n
      · rw [if_pos h2, if_pos h2]
      · rw [if_neg h2, if_neg h2, w64 (n := u) (by omega) (by omega), w64 (by omega) (by omega), if_pos (by omega), if_pos (by omega), if_pos (by omega)]
  · rw [if_neg he, if_neg he]

theorem ref_bd (s : ByteArray) (p most : Int) (hs : s.size ≤ 4611686018427387904) (hm : 0 ≤ most ∧ most ≤ 1048576) (k : Nat) (hk : 40 ≤ k) : strataref01_readText.f k s p most = some (rtext s p most) := by
  unfold strataref01_readText.f rtext
  rw [ref_uv s p hs k hk]
  simp only [Option.bind_some]
  have g := ruv_good s p
  generalize ruv s p = r at g
  obtain ⟨u, n, e⟩ := r
  simp only at g ⊢
  by_cases he : e = 0
  · rw [if_pos he, if_pos he]
    by_cases h1 : u > most
    · rw [if_pos h1, if_pos h1]
    · rw [if_neg h1, if_neg h1, w64 (n := (s.size : Int) - n) (by omega) (by omega), w64 (n := u) (by omega) (by omega)]
      by_cases h2 : u > (s.size : Int) - n
      · rw [if_pos (by omega), if_pos h2]
      · rw [if_neg (by omega), if_neg h2, w64 (by omega) (by omega), if_pos (by omega), if_pos (by omega), if_pos (by omega)]
  · rw [if_neg he, if_neg he]

theorem bits_bl (s : ByteArray) (p : Int) (hs : s.size ≤ 4611686018427387904) (k : Nat) (hk : 40 ≤ k) : bits_ReadBlob.f k s p = some (rtext s p 1048576) := by
  unfold bits_ReadBlob.f
  rw [bits_bd s p 1048576 hs (by decide) k hk]
  simp only [Option.bind_some]

theorem ref_bl (s : ByteArray) (p : Int) (hs : s.size ≤ 4611686018427387904) (k : Nat) (hk : 40 ≤ k) : strataref01_ReadBlob.f k s p = some (rtext s p 1048576) := by
  unfold strataref01_ReadBlob.f
  rw [ref_bd s p 1048576 hs (by decide) k hk]
  simp only [Option.bind_some]

end Go.Proofs.Ytnanepgcaefhcaa.HBaseL
