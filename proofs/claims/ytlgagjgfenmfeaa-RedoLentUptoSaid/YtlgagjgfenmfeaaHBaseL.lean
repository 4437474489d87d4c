/- What the functions of layer 1 that read and write numbers come to, and the document's own: plain laws over their printed forms. -/
import Derived.Test.YtlgagjgfenmfeaaPBasex
import Derived.Test.YtlgagjgfenmfeaaHUv
import Derived.Test.YtlgagjgfenmfeaaHCore
set_option linter.unusedVariables false
set_option linter.unusedSimpArgs false
namespace Go.Proofs.Ytlgagjgfenmfeaa.HBaseL
open Go.RowKit Go.Proofs.Ytlgagjgfenmfeaa.PBase Go.Proofs.Ytlgagjgfenmfeaa.HUv Go.Proofs.YtlgagjgfenmfeaaW.PrintWords Go.Proofs.YtlgagjgfenmfeaaW.PrintLast Go.Proofs.YtlgagjgfenmfeaaW.PrintMore Go.Proofs.Ytlgagjgfenmfeaa.HCore

/-! ### What is laid down -/
theorem ref_uvarint_loop (d : Nat) : ∀ (x : Nat) (acc : List Int) (k : Nat), x < 128 ^ d → d < k → acc.length + d ≤ 1000 → x < 2 ^ 64 → 1 ≤ d →
    strataref01_Uvarint.l0 k (x : Int) acc = some (strOfNums (acc ++ (uvl d x).map fun (n : Nat) => (n : Int))) := by
  induction d with
  | zero => intro x acc k _ _ _ _ h; omega
  | succ d ih =>
    intro x acc k hx hk hl h64 _
    obtain ⟨k, rfl⟩ : ∃ m, k = m + 1 := ⟨k - 1, by omega⟩
    simp only [strataref01_Uvarint.l0]
    by_cases h : 128 ≤ x
    · have e : uvl (d + 1) x = (x % 128 + 128) :: uvl d (x / 128) := by rw [uvl, if_pos h]
      have hx2 : x / 128 < 128 ^ d := by
        rw [Nat.div_lt_iff_lt_mul (by decide)]
        rw [show 128 ^ (d + 1) = 128 ^ d * 128 from Nat.pow_succ 128 d] at hx
        exact hx
      have hd : 1 ≤ d := by
        rcases Nat.eq_zero_or_pos d with h0 | h0
        · subst h0; simp at hx2; omega
        · exact h0
      rw [if_pos (by omega), if_pos (by omega), tdiv_nn (by omega), tmod_nn (by omega), wu64 (by omega) (by omega), wu64 (by omega) (by omega)]
      rw [show ((x : Int) / 128) = ((x / 128 : Nat) : Int) by omega, show ((x : Int) % 128 + 128) % 256 = ((x % 128 + 128 : Nat) : Int) by omega]
      rw [ih (x / 128) _ k hx2 (by omega) (by simp; omega) (by omega) hd, e]
      simp
    · have e : uvl (d + 1) x = [x] := by rw [uvl, if_neg h]
      rw [if_neg (by omega), if_pos (by omega), e, show (x : Int) % 256 = (x : Int) by omega]
      rfl
theorem ref_uvarint (a : Int) (h : 0 ≤ a ∧ a ≤ 18446744073709551615) : strataref01_Uvarint.f 60 a = some (uvb a.toNat) := by
  obtain ⟨x, rfl⟩ := Int.eq_ofNat_of_zero_le h.1
  unfold strataref01_Uvarint.f
  have hx : x < 2 ^ 64 := by omega
  rw [ref_uvarint_loop 10 x [] 60 (Nat.lt_of_lt_of_le hx (by decide)) (by decide) (by decide) hx (by decide)]
  rfl
set_option maxHeartbeats 4000000 in
theorem bits_uv_loop (s : ByteArray) (p : Int) (hs : s.size ≤ 4611686018427387904) (hp : 0 ≤ p) (d : Nat) : ∀ (i k : Nat), d + i = 10 → p + i ≤ s.size → 2 * d < k →
    bits_ReadUvarint.l0 k s p (uval s p i) (i : Int) = some (ruvFrom s p d i) := by
  induction d with
  | zero =>
    intro i k hd hi hk
    obtain ⟨k, rfl⟩ : ∃ m, k = m + 1 := ⟨k - 1, by omega⟩
    simp only [bits_ReadUvarint.l0]
    rw [if_neg (by omega)]; rfl
  | succ d ih =>
    intro i k hd hi hk
    obtain ⟨k, rfl⟩ : ∃ m, k = m + 2 := ⟨k - 2, by omega⟩
    have hw : wrap64 (p + (i : Int)) = p + i := w64 (by omega) (by omega)
    have hb := bt_rng s (p + i)
    obtain ⟨hp1, hp2, hp3, hp4⟩ := pow128 i (by omega)
    have hu := uval_lt s p i
    have hq := pow128_pos i
    -- the next worth
    have hand : Go.bits .and .u8 (bt s (p + i)) 127 = bt s (p + i) % 128 := bits_mask .u8 8 (by decide) wraps_u8 7 (by decide) _ hb.1 (by omega)
    have h7 : wrap64 (7 * (i : Int)) = ((7 * i : Nat) : Int) := by rw [w64 (by omega) (by omega)]; omega
    have hval : ¬ (i = 9 ∧ bt s (p + i) > 1) → Go.bits .or .u64 (uval s p i) (shl .u64 (IntKind.u64.wrap (Go.bits .and .u8 (bt s (p + i)) 127)) (wrap64 (7 * (i : Int)))) = uval s p (i + 1) := by
      intro hn
      rw [hand, wu64 (by omega) (by omega), h7]
      have hx : 0 ≤ (bt s (p + i) % 128) * 128 ^ i ∧ (bt s (p + i) % 128) * 128 ^ i ≤ 9223372036854775808 := by
        refine ⟨Int.mul_nonneg (by omega) (by omega), ?_⟩
        by_cases h9 : i = 9
        · have hb1 : bt s (p + i) % 128 ≤ 1 := by omega
          have := Int.mul_le_mul_of_nonneg_right hb1 (show (0 : Int) ≤ 128 ^ i by omega)
          omega
        · have hb1 : bt s (p + i) % 128 ≤ 127 := by omega
          have := Int.mul_le_mul_of_nonneg_right hb1 (show (0 : Int) ≤ 128 ^ i by omega)
          have := hp4 (by omega)
          omega
      have hsh : shl .u64 (bt s (p + i) % 128) ((7 * i : Nat) : Int) = (bt s (p + i) % 128) * 128 ^ i := by
        unfold shl
        rw [show min ((7 * i : Nat) : Int).toNat IntKind.u64.bits = 7 * i by simp [IntKind.bits]; omega, hp1, wu64 hx.1 (by omega)]
      rw [hsh, u64_or _ _ hu.1 (by omega) hx.1 (by omega), Nat.or_comm]
      have hj : ((bt s (p + i) % 128) * 128 ^ i).toNat ||| (uval s p i).toNat = ((bt s (p + i) % 128) * 128 ^ i).toNat + (uval s p i).toNat := by
        refine nat_join (7 * i) _ _ ?_ ?_
        · rw [hp2]
          obtain ⟨b, hb'⟩ := Int.eq_ofNat_of_zero_le (show 0 ≤ bt s (p + i) % 128 by omega)
          rw [hb']
          have : ((b : Int) * 128 ^ i).toNat = b * 128 ^ i := by
            have e : ((b : Int) * 128 ^ i) = ((b * 128 ^ i : Nat) : Int) := by simp
            rw [e, Int.toNat_natCast]
          rw [this]; exact Nat.mul_mod_left _ _
        · rw [hp2]
          have e : (((128 ^ i : Nat)) : Int) = (128 : Int) ^ i := by simp
          omega
      rw [hj]
      simp only [uval]
      omega
    have hj2 : ∀ x : Bool, (x = true → i = 9 ∧ bt s (p + i) > 1) → (x = false → ¬ (i = 9 ∧ bt s (p + i) > 1)) → p + i ≠ s.size →
        bits_ReadUvarint.j2 (k + 1) s p (uval s p i) (i : Int) (bt s (p + i)) (i : Int) x = some (ruvFrom s p (d + 1) i) := by
      intro x hx1 hx0 hne
      simp only [bits_ReadUvarint.j2, ruvFrom]
      rw [if_neg hne]
      cases x with
      | true => rw [if_pos (by first | rfl | trivial), if_pos (hx1 rfl)]
      | false =>
        have hn := hx0 rfl
        rw [if_neg (by decide), if_neg hn, h7, if_pos (by omega), ← h7, hval hn, hw]
        have hw2 : wrap64 (p + (i : Int) + 1) = p + i + 1 := w64 (by omega) (by omega)
        by_cases hc : bt s (p + i) < 128
        · rw [if_pos hc, if_pos hc]
          by_cases hz : bt s (p + i) = 0
          · rw [if_pos hz]
            by_cases hi0 : (i : Int) > 0
            · rw [if_pos hi0, if_pos ⟨hz, by omega⟩]
            · rw [if_neg hi0, if_neg (fun h => hi0 (by have := h.2; omega)), hw2]
          · rw [if_neg hz, if_neg (fun h => hz h.1), hw2]
        · rw [if_neg hc, if_neg hc]
          clear hval hand hp1 hp2 hp3 hp4 hu hq
          have hw3 : wrap64 ((i : Int) + 1) = ((i + 1 : Nat) : Int) := by rw [w64 (by omega) (by omega)]; omega
          rw [hw3]
          exact ih (i + 1) k (by omega) (by omega) (by omega)
    clear hval hand hp1 hp2 hp3 hp4 hu hq
    rw [show k + 2 = (k + 1) + 1 from rfl]
    conv => lhs; simp only [bits_ReadUvarint.l0]
    rw [if_pos (show (i : Int) < 10 by omega), hw]
    by_cases hne : p + i = s.size
    · rw [if_pos hne]; simp only [ruvFrom]; rw [if_pos hne]
    · rw [if_neg hne, if_pos (by omega), if_pos (by omega)]
      by_cases h9 : (i : Int) = 9
      · rw [if_pos h9]
        refine hj2 _ (fun h => ⟨by omega, of_decide_eq_true h⟩) (fun h hh => ?_) hne
        exact absurd hh.2 (of_decide_eq_false h)
      · rw [if_neg h9]
        exact hj2 _ (fun h => by cases h) (fun _ hh => h9 (by omega)) hne

theorem bits_uv (s : ByteArray) (p : Int) (hs : s.size ≤ 4611686018427387904) (k : Nat) (hk : 40 ≤ k) : bits_ReadUvarint.f k s p = some (ruv s p) := by
  obtain ⟨k, rfl⟩ : ∃ m, k = m + 1 := ⟨k - 1, by omega⟩
  unfold bits_ReadUvarint.f ruv
  simp only [bits_ReadUvarint.j0]
  by_cases h : p < 0
  · rw [if_pos h, if_pos (by first | rfl | trivial), if_pos (Or.inl h)]
  · rw [if_neg h]
    by_cases h2 : p > (s.size : Int)
    · rw [decide_eq_true h2, if_pos (by first | rfl | trivial), if_pos (Or.inr h2)]
    · rw [decide_eq_false h2, if_neg (by decide), if_neg (by omega)]
      exact bits_uv_loop s p hs (by omega) 10 0 k rfl (by simp; omega) (by omega)

theorem ref_uv_l1 (s : ByteArray) (p : Int) (n : Nat) (hs : s.size ≤ 4611686018427387904) (hp : 0 ≤ p) (hn : p + n < s.size) (t : Nat) : ∀ (acc : Int) (k : Nat), 0 ≤ acc → t ≤ n + 1 → t < k →
    acc * 128 ^ t + uval s p t ≤ 18446744073709551615 →
    strataref01_ReadUvarint.l1 k s p (n : Int) acc ((t : Int) - 1) = some (acc * 128 ^ t + uval s p t, p + n + 1, 0) := by
  induction t with
  | zero =>
    intro acc k ha ht hk hb
    obtain ⟨k, rfl⟩ : ∃ m, k = m + 1 := ⟨k - 1, by omega⟩
    simp only [strataref01_ReadUvarint.l1]
    rw [if_neg (by simp), w64 (n := p + n) (by omega) (by omega), w64 (by omega) (by omega)]
    simp [uval]
  | succ t ih =>
    intro acc k ha ht hk hb
    obtain ⟨k, rfl⟩ : ∃ m, k = m + 1 := ⟨k - 1, by omega⟩
    simp only [strataref01_ReadUvarint.l1]
    have e0 : ((t + 1 : Nat) : Int) - 1 = (t : Int) := by omega
    have hbt := bt_rng s (p + t)
    rw [e0, if_pos (by omega), w64 (n := p + t) (by omega) (by omega), if_pos (by omega), if_pos (by omega), tmod_nn hbt.1]
    have hq := pow128_pos t
    have hpw : (128 : Int) ^ (t + 1) = 128 * 128 ^ t := by rw [Int.pow_succ, Int.mul_comm]
    have hu := uval_lt s p t
    have hsum : acc * 128 ^ (t + 1) + uval s p (t + 1) = (acc * 128 + bt s (p + t) % 128) * 128 ^ t + uval s p t := by
      simp only [uval]
      rw [hpw, Int.add_mul, Int.mul_assoc]
      omega
    have hle : acc * 128 + bt s (p + t) % 128 ≤ 18446744073709551615 := by
      have h1 : (acc * 128 + bt s (p + t) % 128) * 1 ≤ (acc * 128 + bt s (p + t) % 128) * 128 ^ t := Int.mul_le_mul_of_nonneg_left (by omega) (by omega)
      omega
    rw [wu64 (n := acc * 128) (by omega) (by omega), wu64 (n := bt s (p + t) % 128) (by omega) (by omega), wu64 (by omega) hle, w64 (by omega) (by omega), hsum]
    exact ih _ k (by omega) (by omega) (by omega) (by omega)

set_option maxHeartbeats 4000000 in
theorem ref_uv_loop (s : ByteArray) (p : Int) (hs : s.size ≤ 4611686018427387904) (hp : 0 ≤ p) (d : Nat) : ∀ (i k : Nat), d + i = 10 → p + i ≤ s.size → d + 20 < k →
    strataref01_ReadUvarint.l0 k s p (i : Int) = some (ruvFrom s p d i) := by
  induction d with
  | zero =>
    intro i k hd hi hk
    obtain ⟨k, rfl⟩ : ∃ m, k = m + 4 := ⟨k - 4, by omega⟩
    obtain rfl : i = 10 := by omega
    simp only [strataref01_ReadUvarint.l0]
    rw [if_neg (by decide)]
    simp only [strataref01_ReadUvarint.j1]
    rw [if_neg (by decide)]
    simp only [strataref01_ReadUvarint.j2]
    rw [if_neg (by decide), if_pos (by first | rfl | trivial)]
    simp only [strataref01_ReadUvarint.j3]
    rfl
  | succ d ih =>
    intro i k hd hi hk
    obtain ⟨k, rfl⟩ : ∃ m, k = m + 1 := ⟨k - 1, by omega⟩
    have hw : wrap64 (p + (i : Int)) = p + i := w64 (by omega) (by omega)
    have hb := bt_rng s (p + i)
    simp only [strataref01_ReadUvarint.l0]
    rw [if_pos (show (i : Int) < 10 by omega), hw]
    by_cases hne : p + i = s.size
    · rw [if_neg (by omega)]
      obtain ⟨k, rfl⟩ : ∃ m, k = m + 2 := ⟨k - 2, by omega⟩
      simp only [strataref01_ReadUvarint.j1]
      rw [if_pos (show (i : Int) < 10 by omega), hw, beq_iff_eq.2 hne]
      simp only [strataref01_ReadUvarint.j2, ruvFrom]
      rw [if_pos (by first | rfl | trivial), if_pos hne]
    · rw [if_pos (by omega), if_pos (by omega)]
      by_cases hbig : bt s (p + i) > 127
      · rw [if_pos hbig]
        have hw3 : wrap64 ((i : Int) + 1) = ((i + 1 : Nat) : Int) := by rw [w64 (by omega) (by omega)]; omega
        rw [hw3, ih (i + 1) k (by omega) (by omega) (by omega)]
        by_cases h9 : i = 9
        · obtain rfl : d = 0 := by omega
          simp only [ruvFrom]
          rw [if_neg hne, if_pos ⟨h9, by omega⟩]
        · conv => rhs; simp only [ruvFrom]
          rw [if_neg hne, if_neg (fun h => h9 h.1), if_neg (by omega)]
      · rw [if_neg hbig]
        obtain ⟨k, rfl⟩ : ∃ m, k = m + 4 := ⟨k - 4, by omega⟩
        have hj4 : ∀ x : Bool, ¬ (i = 9 ∧ bt s (p + i) > 1) → (x = true ↔ (bt s (p + i) = 0 ∧ i > 0)) → strataref01_ReadUvarint.j4 (k + 1) s p (i : Int) x = some (ruvFrom s p (d + 1) i) := by
          intro x hn hx
          simp only [strataref01_ReadUvarint.j4, ruvFrom]
          rw [if_neg hne, if_neg hn, if_pos (show bt s (p + i) < 128 by omega)]
          cases x with
          | true => rw [if_pos (by first | rfl | trivial), if_pos (hx.1 rfl)]
          | false =>
            rw [if_neg (show ¬ (false = true) by decide), if_neg (show ¬ (bt s (p + i) = 0 ∧ i > 0) from fun h => by have := hx.2 h; cases this)]
            have := ref_uv_l1 s p i hs hp (by omega) (i + 1) 0 k (by omega) (by omega) (by omega) (by
              have g := ruvFrom_good s p hp (d + 1) i hd hi
              simp only [ruvFrom] at g
              rw [if_neg hne, if_neg hn, if_pos (by omega), if_neg (fun h => by have := hx.2 h; cases this)] at g
              rcases g with g | g
              · have := g.2.2.1; simp only at this; omega
              · exact absurd rfl g.1)
            rw [show (((i + 1 : Nat) : Int) - 1) = (i : Int) by omega] at this
            rw [this]; simp
        have hj3 : ∀ x : Bool, (x = true ↔ (i = 9 ∧ bt s (p + i) > 1)) → strataref01_ReadUvarint.j3 (k + 2) s p (i : Int) x = some (ruvFrom s p (d + 1) i) := by
          intro x hx
          simp only [strataref01_ReadUvarint.j3]
          cases x with
          | true =>
            rw [if_pos (by first | rfl | trivial)]
            simp only [ruvFrom]
            rw [if_neg hne, if_pos (hx.1 rfl)]
          | false =>
            have hn : ¬ (i = 9 ∧ bt s (p + i) > 1) := fun h => by have := hx.2 h; cases this
            rw [if_neg (by decide), hw]
            by_cases h0 : (i : Int) > 0
            · rw [if_pos h0, if_pos (by omega), if_pos (by omega)]
              refine hj4 _ hn ⟨fun h => ⟨by simpa using h, by omega⟩, fun h => by simpa using h.1⟩
            · rw [if_neg h0]
              exact hj4 _ hn ⟨fun h => (by cases h), fun h => absurd h.2 (by omega)⟩
        simp only [strataref01_ReadUvarint.j1]
        rw [if_pos (show (i : Int) < 10 by omega), hw, beq_eq_false_iff_ne.2 hne]
        simp only [strataref01_ReadUvarint.j2]
        rw [if_neg (by decide), if_neg (by omega)]
        by_cases h9 : (i : Int) = 9
        · have h9' : i = 9 := by omega
          subst h9'
          rw [if_pos h9]
          have hw9 : wrap64 (p + 9) = p + 9 := hw
          rw [hw9, if_pos (by omega), if_pos (by omega)]
          exact hj3 _ ⟨fun h => ⟨rfl, of_decide_eq_true h⟩, fun h => decide_eq_true h.2⟩
        · rw [if_neg h9]
          exact hj3 _ ⟨fun h => (by cases h), fun h => absurd h.1 (by omega)⟩

theorem ref_uv (s : ByteArray) (p : Int) (hs : s.size ≤ 4611686018427387904) (k : Nat) (hk : 40 ≤ k) : strataref01_ReadUvarint.f k s p = some (ruv s p) := by
  unfold strataref01_ReadUvarint.f strataref01_within.f ruv
  by_cases h : p < 0
  · rw [if_neg (by omega), if_pos (Or.inl h)]; rfl
  · rw [if_pos (by omega)]
    simp only [Option.bind_some]
    by_cases h2 : p > (s.size : Int)
    · rw [decide_eq_false (by omega), if_neg (by decide), if_pos (Or.inr h2)]
    · rw [decide_eq_true (by omega), if_pos (by first | rfl | trivial), if_neg (by omega)]
      exact ref_uv_loop s p hs (by omega) 10 0 k rfl (by simp; omega) (by omega)

theorem or_u32_add (x y : Int) (i : Nat) (hx : 0 ≤ x) (hx1 : x < 2 ^ i) (hy : 0 ≤ y) (hy1 : y < 4294967296) (hi : i ≤ 31) (hm : y % 2 ^ i = 0) : Go.bits .or .u32 x y = x + y := by
  have hp : (2 : Int) ^ i ≤ 2 ^ 31 := by
    have h : (2 : Nat) ^ i ≤ 2 ^ 31 := Nat.pow_le_pow_right (by decide) hi
    exact_mod_cast h
  obtain ⟨a, rfl⟩ := Int.eq_ofNat_of_zero_le hx
  obtain ⟨b, rfl⟩ := Int.eq_ofNat_of_zero_le hy
  rw [u32_or _ _ (by omega) (by omega) (by omega) (by omega)]
  simp only [Int.toNat_natCast]
  rw [Nat.or_comm, nat_join i b a (by exact_mod_cast hm) (by exact_mod_cast hx1)]
  omega

theorem fval_4 (s : ByteArray) (p : Int) : fval s p 4 = bt s p + bt s (p + 1) * 256 + bt s (p + 2) * 65536 + bt s (p + 3) * 16777216 := by
  show (((0 + bt s (p + ((0 : Nat) : Int)) * 256 ^ 0) + bt s (p + ((1 : Nat) : Int)) * 256 ^ 1) + bt s (p + ((2 : Nat) : Int)) * 256 ^ 2) + bt s (p + ((3 : Nat) : Int)) * 256 ^ 3 = _
  rw [show p + ((0 : Nat) : Int) = p by omega]
  show (((0 + bt s p * 1) + bt s (p + 1) * 256) + bt s (p + 2) * 65536) + bt s (p + 3) * 16777216 = _
  omega

theorem fval_8 (s : ByteArray) (p : Int) : fval s p 8 = fval s p 4 + fval s (p + 4) 4 * 4294967296 := by
  rw [fval_4 s (p + 4)]
  show (((fval s p 4 + bt s (p + ((4 : Nat) : Int)) * 256 ^ 4) + bt s (p + ((5 : Nat) : Int)) * 256 ^ 5) + bt s (p + ((6 : Nat) : Int)) * 256 ^ 6) + bt s (p + ((7 : Nat) : Int)) * 256 ^ 7 = _
  rw [show p + ((4 : Nat) : Int) = p + 4 from rfl, show p + ((5 : Nat) : Int) = p + 4 + 1 by omega, show p + ((6 : Nat) : Int) = p + 4 + 2 by omega, show p + ((7 : Nat) : Int) = p + 4 + 3 by omega]
  show (((fval s p 4 + bt s (p + 4) * 4294967296) + bt s (p + 4 + 1) * 1099511627776) + bt s (p + 4 + 2) * 281474976710656) + bt s (p + 4 + 3) * 72057594037927936 = _
  omega

theorem bits_bd (s : ByteArray) (p most : Int) (hs : s.size ≤ 4611686018427387904) (hm : 0 ≤ most ∧ most ≤ 1048576) (k : Nat) (hk : 40 ≤ k) : bits_bounded.f k s p most = some (rtext s p most) := by
  unfold bits_bounded.f rtext
  rw [bits_uv s p hs k hk]
  simp only [Option.bind_some]
  have g := ruv_good s p
  generalize ruv s p = r at g
  obtain ⟨u, n, e⟩ := r
  simp only at g ⊢
  by_cases he : e = 0
  · rw [if_pos he, if_pos he]
    by_cases h1 : u > most
    · rw [if_pos h1, if_pos h1]
    · rw [if_neg h1, if_neg h1, w64 (n := (s.size : Int) - n) (by omega) (by omega), wu64 (by omega) (by omega)]
      by_cases h2 : u > (s.size : Int) - n
      · rw [if_pos h2, if_pos h2]
      · rw [if_neg h2, if_neg h2, w64 (n := u) (by omega) (by omega), w64 (by omega) (by omega), if_pos (by omega), if_pos (by omega), if_pos (by omega)]
  · rw [if_neg he, if_neg he]

theorem ref_bd (s : ByteArray) (p most : Int) (hs : s.size ≤ 4611686018427387904) (hm : 0 ≤ most ∧ most ≤ 1048576) (k : Nat) (hk : 40 ≤ k) : strataref01_readText.f k s p most = some (rtext s p most) := by
  unfold strataref01_readText.f rtext
  rw [ref_uv s p hs k hk]
  simp only [Option.bind_some]
  have g := ruv_good s p
  generalize ruv s p = r at g
  obtain ⟨u, n, e⟩ := r
  simp only at g ⊢
  by_cases he : e = 0
  · rw [if_pos he, if_pos he]
    by_cases h1 : u > most
    · rw [if_pos h1, if_pos h1]
    · rw [if_neg h1, if_neg h1, w64 (n := (s.size : Int) - n) (by omega) (by omega), w64 (n := u) (by omega) (by omega)]
      by_cases h2 : u > (s.size : Int) - n
      · rw [if_pos (by omega), if_pos h2]
      · rw [if_neg (by omega), if_neg h2, w64 (by omega) (by omega), if_pos (by omega), if_pos (by omega), if_pos (by omega)]
  · rw [if_neg he, if_neg he]

theorem bits_bl (s : ByteArray) (p : Int) (hs : s.size ≤ 4611686018427387904) (k : Nat) (hk : 40 ≤ k) : bits_ReadBlob.f k s p = some (rtext s p 1048576) := by
  unfold bits_ReadBlob.f
  rw [bits_bd s p 1048576 hs (by decide) k hk]
  simp only [Option.bind_some]

theorem ref_bl (s : ByteArray) (p : Int) (hs : s.size ≤ 4611686018427387904) (k : Nat) (hk : 40 ≤ k) : strataref01_ReadBlob.f k s p = some (rtext s p 1048576) := by
  unfold strataref01_ReadBlob.f
  rw [ref_bd s p 1048576 hs (by decide) k hk]
  simp only [Option.bind_some]

end Go.Proofs.Ytlgagjgfenmfeaa.HBaseL
