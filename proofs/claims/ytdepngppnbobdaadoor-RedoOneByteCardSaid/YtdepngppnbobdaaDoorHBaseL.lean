/- What the functions of layer 1 that read and write numbers come to, and the document's own: plain laws over their printed forms. -/
import Derived.Test.YtdepngppnbobdaaDoorPBasex
import Derived.Test.YtdepngppnbobdaaDoorHUv
import Derived.Test.YtdepngppnbobdaaDoorHCore
set_option linter.unusedVariables false
set_option linter.unusedSimpArgs false
namespace Go.Proofs.YtdepngppnbobdaaDoor.HBaseL
open Go.RowKit Go.Proofs.YtdepngppnbobdaaDoor.PBase Go.Proofs.YtdepngppnbobdaaDoor.HUv Go.Proofs.YtdepngppnbobdaaDoorW.PrintWords Go.Proofs.YtdepngppnbobdaaDoorW.PrintLast Go.Proofs.YtdepngppnbobdaaDoorW.PrintMore Go.Proofs.YtdepngppnbobdaaDoor.HCore

/-! ### What is laid down -/
theorem bits_fixed32 (a : Int) : bits_Fixed32.f a = some (fxb 4 a) := by
  unfold bits_Fixed32.f fxb
  simp only [fxl]
  rw [show a / 256 / 256 / 256 = a / 16777216 by omega, show a / 256 / 256 = a / 65536 by omega]
theorem bits_fixed64 (a : Int) (h : 0 ≤ a ∧ a ≤ 18446744073709551615) : bits_Fixed64.f a = some (fxb 8 a) := by
  unfold bits_Fixed64.f
  rw [bits_fixed32, bits_fixed32]
  simp only [Option.bind_some]
  have e : fxb 4 (a % 4294967296) ++ fxb 4 (a / 4294967296 % 4294967296) = fxb 8 a := by
    apply ba_ext
    rw [append_list]
    unfold fxb
    rw [strOfNums_list, strOfNums_list, strOfNums_list, ← List.map_append]
    congr 1
    simp only [fxl, List.cons_append, List.nil_append]
    congr 1
    · omega
    congr 1
    · omega
    congr 1
    · omega
    congr 1
    · omega
    congr 1
    · omega
    congr 1
    · omega
    congr 1
    · omega
    congr 1
    omega
  rw [if_pos (by unfold fxb; rw [strOfNums_len, strOfNums_len]; simp [fxl]), e]
theorem ref_fixed_loop (n : Int) (d : Nat) : ∀ (x : Int) (acc : List Int) (i : Int) (k : Nat), 0 ≤ x → x ≤ 18446744073709551615 → i + d = n → 0 ≤ i → n ≤ 1000 → acc.length ≤ i → d < k →
    strataref01_fixed.l0 k x n acc i = some (strOfNums (acc ++ fxl d x)) := by
  induction d with
  | zero =>
    intro x acc i k h0 h1 hi hp hn ha hk
    obtain ⟨k, rfl⟩ : ∃ m, k = m + 1 := ⟨k - 1, by omega⟩
    simp only [strataref01_fixed.l0]
    rw [if_neg (by omega)]
    simp [fxl]
  | succ d ih =>
    intro x acc i k h0 h1 hi hp hn ha hk
    obtain ⟨k, rfl⟩ : ∃ m, k = m + 1 := ⟨k - 1, by omega⟩
    simp only [strataref01_fixed.l0]
    rw [if_pos (by omega), if_pos (by omega), tdiv_nn h0, tmod_nn h0, wu64 (by omega) (by omega), w64 (by omega) (by omega), ih _ _ _ k (by omega) (by omega) (by omega) (by omega) hn (by simp; omega) (by omega), fxl, show x % 256 % 256 = x % 256 by omega]
    simp
theorem ref_fixed (a : Int) (n : Int) (h : 0 ≤ a ∧ a ≤ 18446744073709551615) (hn : 0 ≤ n ∧ n ≤ 30) : strataref01_fixed.f 60 a n = some (fxb n.toNat a) := by
  unfold strataref01_fixed.f
  rw [ref_fixed_loop n n.toNat a [] 0 60 h.1 h.2 (by omega) (by omega) (by omega) (by simp) (by omega)]
  rfl
theorem ref_fixed32 (a : Int) (h : 0 ≤ a ∧ a ≤ 4294967295) : strataref01_Fixed32.f 60 a = some (fxb 4 a) := by
  unfold strataref01_Fixed32.f
  rw [wu64 (by omega) (by omega), ref_fixed a 4 (by omega) (by decide)]
  rfl
theorem ref_fixed64 (a : Int) (h : 0 ≤ a ∧ a ≤ 18446744073709551615) : strataref01_Fixed64.f 60 a = some (fxb 8 a) := by
  unfold strataref01_Fixed64.f
  rw [ref_fixed a 8 h (by decide)]
  rfl

/-! ### What is read: both texts' functions, as one plain function -/
theorem or_u32_add (x y : Int) (i : Nat) (hx : 0 ≤ x) (hx1 : x < 2 ^ i) (hy : 0 ≤ y) (hy1 : y < 4294967296) (hi : i ≤ 31) (hm : y % 2 ^ i = 0) : Go.bits .or .u32 x y = x + y := by
  have hp : (2 : Int) ^ i ≤ 2 ^ 31 := by
    have h : (2 : Nat) ^ i ≤ 2 ^ 31 := Nat.pow_le_pow_right (by decide) hi
    exact_mod_cast h
  obtain ⟨a, rfl⟩ := Int.eq_ofNat_of_zero_le hx
  obtain ⟨b, rfl⟩ := Int.eq_ofNat_of_zero_le hy
  rw [u32_or _ _ (by omega) (by omega) (by omega) (by omega)]
  simp only [Int.toNat_natCast]
  rw [Nat.or_comm, nat_join i b a (by exact_mod_cast hm) (by exact_mod_cast hx1)]
  omega

theorem fval_4 (s : ByteArray) (p : Int) : fval s p 4 = bt s p + bt s (p + 1) * 256 + bt s (p + 2) * 65536 + bt s (p + 3) * 16777216 := by
  show (((0 + bt s (p + ((0 : Nat) : Int)) * 256 ^ 0) + bt s (p + ((1 : Nat) : Int)) * 256 ^ 1) + bt s (p + ((2 : Nat) : Int)) * 256 ^ 2) + bt s (p + ((3 : Nat) : Int)) * 256 ^ 3 = _
  rw [show p + ((0 : Nat) : Int) = p by omega]
  show (((0 + bt s p * 1) + bt s (p + 1) * 256) + bt s (p + 2) * 65536) + bt s (p + 3) * 16777216 = _
  omega

theorem bits_f32 (s : ByteArray) (p : Int) (hs : s.size ≤ 4611686018427387904) (k : Nat) (hk : 1 ≤ k) : bits_ReadFixed32.f k s p = some (rfix s p 4) := by
  obtain ⟨k, rfl⟩ : ∃ m, k = m + 1 := ⟨k - 1, by omega⟩
  unfold bits_ReadFixed32.f
  simp only [bits_ReadFixed32.j0]
  by_cases h : p < 0
  · rw [if_pos h, if_pos (by first | rfl | trivial), rfix_out 4 (Or.inl h)]
  · rw [if_neg h]
    by_cases h2 : p > (s.size : Int)
    · rw [decide_eq_true h2, if_pos (by first | rfl | trivial), rfix_out 4 (Or.inr h2)]
    · rw [decide_eq_false h2, if_neg (by decide), w64 (by omega) (by omega)]
      by_cases h3 : (s.size : Int) - p < 4
      · rw [if_pos h3, rfix_short (by omega) (show (s.size : Int) - p < (4 : Nat) from h3)]
      · rw [if_neg h3, rfix_ok (by omega) (show ¬ (s.size : Int) - p < (4 : Nat) from h3), w64 (n := p + 1) (by omega) (by omega), w64 (n := p + 2) (by omega) (by omega), w64 (n := p + 3) (by omega) (by omega), w64 (n := p + 4) (by omega) (by omega)]
        rw [if_pos (by omega), if_pos (by omega), if_pos (by omega), if_pos (by omega), if_pos (by omega), if_pos (by omega), if_pos (by omega), if_pos (by omega)]
        have b0 := bt_rng s p
        have b1 := bt_rng s (p + 1)
        have b2 := bt_rng s (p + 2)
        have b3 := bt_rng s (p + 3)
        rw [show bt s p % 4294967296 = bt s p by omega, show bt s (p + 1) % 4294967296 * 256 % 4294967296 = bt s (p + 1) * 256 by omega, show bt s (p + 2) % 4294967296 * 65536 % 4294967296 = bt s (p + 2) * 65536 by omega, show bt s (p + 3) % 4294967296 * 16777216 % 4294967296 = bt s (p + 3) * 16777216 by omega]
        rw [or_u32_add (bt s p) _ 8 (by omega) (by omega) (by omega) (by omega) (by decide) (by omega), or_u32_add (bt s p + bt s (p + 1) * 256) _ 16 (by omega) (by omega) (by omega) (by omega) (by decide) (by omega), or_u32_add (bt s p + bt s (p + 1) * 256 + bt s (p + 2) * 65536) _ 24 (by omega) (by omega) (by omega) (by omega) (by decide) (by omega), fval_4]
        rfl

theorem ref_fix_loop (s : ByteArray) (p : Int) (n : Nat) (hs : s.size ≤ 4611686018427387904) (hp : 0 ≤ p) (hn : p + n ≤ s.size) (t : Nat) : ∀ (acc : Int) (k : Nat), 0 ≤ acc → t ≤ n → t < k →
    acc * 256 ^ t + fval s p t ≤ 18446744073709551615 →
    strataref01_readFixed.l0 k s p (n : Int) acc ((t : Int) - 1) = some (acc * 256 ^ t + fval s p t, p + n, 0) := by
  induction t with
  | zero =>
    intro acc k ha ht hk hb
    obtain ⟨k, rfl⟩ : ∃ m, k = m + 1 := ⟨k - 1, by omega⟩
    simp only [strataref01_readFixed.l0]
    rw [if_neg (by simp), w64 (by omega) (by omega)]
    simp [fval]
  | succ t ih =>
    intro acc k ha ht hk hb
    obtain ⟨k, rfl⟩ : ∃ m, k = m + 1 := ⟨k - 1, by omega⟩
    simp only [strataref01_readFixed.l0]
    have e0 : ((t + 1 : Nat) : Int) - 1 = (t : Int) := by omega
    have hbt := bt_rng s (p + t)
    rw [e0, if_pos (by omega), w64 (n := p + t) (by omega) (by omega), if_pos (by omega), if_pos (by omega)]
    have hq := pow256_pos t
    have hpw : (256 : Int) ^ (t + 1) = 256 * 256 ^ t := by rw [Int.pow_succ, Int.mul_comm]
    have hu := fval_lt s p t
    have hsum : acc * 256 ^ (t + 1) + fval s p (t + 1) = (acc * 256 + bt s (p + t)) * 256 ^ t + fval s p t := by
      simp only [fval]
      rw [hpw, Int.add_mul, Int.mul_assoc]
      omega
    have hle : acc * 256 + bt s (p + t) ≤ 18446744073709551615 := by
      have h1 : (acc * 256 + bt s (p + t)) * 1 ≤ (acc * 256 + bt s (p + t)) * 256 ^ t := Int.mul_le_mul_of_nonneg_left (by omega) (by omega)
      omega
    rw [wu64 (n := acc * 256) (by omega) (by omega), wu64 (n := bt s (p + t)) (by omega) (by omega), wu64 (by omega) hle, w64 (by omega) (by omega), hsum]
    exact ih _ k (by omega) (by omega) (by omega) (by omega)

theorem ref_fix (s : ByteArray) (p : Int) (n : Nat) (hn : n ≤ 8) (hs : s.size ≤ 4611686018427387904) (k : Nat) (hk : 40 ≤ k) : strataref01_readFixed.f k s p (n : Int) = some (rfix s p n) := by
  unfold strataref01_readFixed.f strataref01_within.f rfix
  by_cases h : p < 0
  · rw [if_neg (by omega), if_pos (Or.inl h)]; rfl
  · rw [if_pos (by omega)]
    simp only [Option.bind_some]
    by_cases h2 : p > (s.size : Int)
    · rw [decide_eq_false (by omega), if_neg (by decide), if_pos (Or.inr h2)]
    · rw [decide_eq_true (by omega), if_pos (by first | rfl | trivial), if_neg (show ¬ (p < 0 ∨ p > (s.size : Int)) by omega), w64 (by omega) (by omega)]
      by_cases h3 : (s.size : Int) - p < n
      · rw [if_pos h3, if_pos h3]
      · rw [if_neg h3, if_neg h3, w64 (by omega) (by omega)]
        have hf := fval_lt s p n
        have hpw : (256 : Int) ^ n ≤ 18446744073709551616 := by
          have h : (256 : Nat) ^ n ≤ 18446744073709551616 := Nat.le_trans (Nat.pow_le_pow_right (by decide) hn) (by decide)
          have e : ((256 ^ n : Nat) : Int) = (256 : Int) ^ n := Int.natCast_pow 256 n
          omega
        rw [ref_fix_loop s p n hs (by omega) (by omega) n 0 k (by omega) (by omega) (by omega) (by omega)]
        simp

theorem ref_f32 (s : ByteArray) (p : Int) (hs : s.size ≤ 4611686018427387904) (k : Nat) (hk : 40 ≤ k) : strataref01_ReadFixed32.f k s p = some (rfix s p 4) := by
  unfold strataref01_ReadFixed32.f
  have h := ref_fix s p 4 (by decide) hs k hk
  have h' : strataref01_readFixed.f k s p 4 = some (rfix s p 4) := h
  rw [h']
  simp only [Option.bind_some]
  have hf := fval_lt s p 4
  have e : (rfix s p 4).1 % 4294967296 = (rfix s p 4).1 := by
    unfold rfix
    split
    · rfl
    · split
      · rfl
      · simp only
        omega
  rw [e]

theorem fval_8 (s : ByteArray) (p : Int) : fval s p 8 = fval s p 4 + fval s (p + 4) 4 * 4294967296 := by
  rw [fval_4 s (p + 4)]
  show (((fval s p 4 + bt s (p + ((4 : Nat) : Int)) * 256 ^ 4) + bt s (p + ((5 : Nat) : Int)) * 256 ^ 5) + bt s (p + ((6 : Nat) : Int)) * 256 ^ 6) + bt s (p + ((7 : Nat) : Int)) * 256 ^ 7 = _
  rw [show p + ((4 : Nat) : Int) = p + 4 from rfl, show p + ((5 : Nat) : Int) = p + 4 + 1 by omega, show p + ((6 : Nat) : Int) = p + 4 + 2 by omega, show p + ((7 : Nat) : Int) = p + 4 + 3 by omega]
  show (((fval s p 4 + bt s (p + 4) * 4294967296) + bt s (p + 4 + 1) * 1099511627776) + bt s (p + 4 + 2) * 281474976710656) + bt s (p + 4 + 3) * 72057594037927936 = _
  omega

theorem bits_f64 (s : ByteArray) (p : Int) (hs : s.size ≤ 4611686018427387904) (k : Nat) (hk : 1 ≤ k) : bits_ReadFixed64.f k s p = some (rfix s p 8) := by
  unfold bits_ReadFixed64.f
  rw [bits_f32 s p hs k hk]
  simp only [Option.bind_some]
  by_cases h : p < 0 ∨ p > s.size
  · rw [rfix_out 4 h, rfix_out 8 h]
    rfl
  · by_cases h3 : (s.size : Int) - p < 4
    · rw [rfix_short h (show (s.size : Int) - p < (4 : Nat) from h3), rfix_short h (show (s.size : Int) - p < (8 : Nat) by show _ < (8 : Int); omega)]
      rfl
    · rw [rfix_ok h (show ¬ (s.size : Int) - p < (4 : Nat) from h3)]
      show (if (0 : Int) = 0 then _ else _) = _
      rw [if_pos rfl]
      show (bits_ReadFixed32.f k s (p + 4)).bind _ = _
      rw [bits_f32 s (p + 4) hs k hk]
      simp only [Option.bind_some]
      by_cases h4 : (s.size : Int) - p < 8
      · rw [rfix_short (by omega) (show (s.size : Int) - (p + 4) < (4 : Nat) by show _ < (4 : Int); omega), rfix_short h (show (s.size : Int) - p < (8 : Nat) from h4)]
        rfl
      · rw [rfix_ok (by omega) (show ¬ (s.size : Int) - (p + 4) < (4 : Nat) by show ¬ _ < (4 : Int); omega), rfix_ok h (show ¬ (s.size : Int) - p < (8 : Nat) from h4)]
        show (if (0 : Int) = 0 then _ else _) = _
        rw [if_pos rfl]
        have f1 := fval_lt s p 4
        have f2 := fval_lt s (p + 4) 4
        simp only [show (256 : Int) ^ 4 = 4294967296 from rfl] at f1 f2
        rw [fval_8]
        show some (Go.bits .or .u64 (IntKind.u64.wrap (IntKind.u64.wrap (fval s (p + 4) 4) * 4294967296)) (IntKind.u64.wrap (fval s p 4)), p + 4 + 4, 0) = _
        rw [wu64 (n := fval s (p + 4) 4) (by omega) (by omega), wu64 (n := fval s p 4) (by omega) (by omega), wu64 (by omega) (by omega)]
        generalize fval s p 4 = a at f1
        generalize fval s (p + 4) 4 = b at f2
        rw [u64_or _ _ (by omega) (by omega) (by omega) (by omega), nat_join 32 _ _ (by omega) (by omega), show p + 4 + 4 = p + 8 by omega]
        show some (_, p + 8, (0 : Int)) = some (_, p + 8, (0 : Int))
        congr 2
        omega

theorem ref_f64 (s : ByteArray) (p : Int) (hs : s.size ≤ 4611686018427387904) (k : Nat) (hk : 40 ≤ k) : strataref01_ReadFixed64.f k s p = some (rfix s p 8) := by
  unfold strataref01_ReadFixed64.f
  have h : strataref01_readFixed.f k s p 8 = some (rfix s p 8) := ref_fix s p 8 (by decide) hs k hk
  rw [h]
  simp only [Option.bind_some]

end Go.Proofs.YtdepngppnbobdaaDoor.HBaseL
