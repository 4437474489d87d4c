/- Plain lemmas on numbers, bits and bytes, with no program in sight: they serve the statements' plain laws. -/
import Derived.Lib.Strings
import Derived.Laws.BitsLemmas
import Derived.Laws.BitsAllLaws
import Derived.WalkArith
import Derived.RowKit
import Derived.Test.YtlgagjgfenmfeaaWMore
set_option linter.unusedVariables false
set_option linter.unusedSimpArgs false
namespace Go.Proofs.Ytlgagjgfenmfeaa.HCore
open Go.RowKit Go.Proofs.YtlgagjgfenmfeaaW.PrintWords Go.Proofs.YtlgagjgfenmfeaaW.PrintLast Go.Proofs.YtlgagjgfenmfeaaW.PrintMore

/-! ### numbers of a kind -/
theorem w64 {n : Int} (h0 : -9223372036854775808 ≤ n) (h1 : n ≤ 9223372036854775807) : wrap64 n = n := by
  unfold wrap64; omega
theorem wu64 {n : Int} (h0 : 0 ≤ n) (h1 : n ≤ 18446744073709551615) : IntKind.u64.wrap n = n := by
  simp only [IntKind.wrap, IntKind.bits, IntKind.signed]
  simp only [Bool.false_and, if_neg (show ¬ (false = true) by decide)]
  omega
theorem wu64_mod (n : Int) : IntKind.u64.wrap n = n % 18446744073709551616 := by
  simp only [IntKind.wrap, IntKind.bits, IntKind.signed]
  simp only [Bool.false_and, if_neg (show ¬ (false = true) by decide)]
  omega
theorem rng_i64 {n : Int} (h : (Lit.int .i64 n).wf = true) : -9223372036854775808 ≤ n ∧ n ≤ 9223372036854775807 := by
  simp only [Lit.wf, Bool.and_eq_true, decide_eq_true_eq] at h
  exact h
theorem rng_u64 {n : Int} (h : (Lit.int .u64 n).wf = true) : 0 ≤ n ∧ n ≤ 18446744073709551615 := by
  simp only [Lit.wf, Bool.and_eq_true, decide_eq_true_eq] at h
  exact h
theorem rng_u32 {n : Int} (h : (Lit.int .u32 n).wf = true) : 0 ≤ n ∧ n ≤ 4294967295 := by
  simp only [Lit.wf, Bool.and_eq_true, decide_eq_true_eq] at h
  exact h
theorem rng_u8 {n : Int} (h : (Lit.int .u8 n).wf = true) : 0 ≤ n ∧ n ≤ 255 := by
  simp only [Lit.wf, Bool.and_eq_true, decide_eq_true_eq] at h
  exact h

/-! ### bits -/
theorem and_2_62 {w : Int} (h0 : 0 ≤ w) (h1 : w ≤ 18446744073709551615) : Go.bits .and .u64 w 4611686018427387904 = w / 4611686018427387904 % 2 * 4611686018427387904 := by
  rw [u64_and w _ h0 (by omega) (by omega) (by omega)]
  have e : w.toNat &&& (4611686018427387904 : Int).toNat = w.toNat / 4611686018427387904 % 2 * 4611686018427387904 := nat_bit 62 _
  rw [e]
  omega
theorem and_2_63 {w : Int} (h0 : 0 ≤ w) (h1 : w ≤ 18446744073709551615) : Go.bits .and .u64 w 9223372036854775808 = w / 9223372036854775808 % 2 * 9223372036854775808 := by
  rw [u64_and w _ h0 (by omega) (by omega) (by omega)]
  have e : w.toNat &&& (9223372036854775808 : Int).toNat = w.toNat / 9223372036854775808 % 2 * 9223372036854775808 := nat_bit 63 _
  rw [e]
  omega
theorem and_1 {w : Int} (h0 : 0 ≤ w) (h1 : w ≤ 18446744073709551615) : Go.bits .and .u64 w 1 = w % 2 := by
  rw [u64_and w _ h0 (by omega) (by omega) (by omega)]
  have e : w.toNat &&& (1 : Int).toNat = w.toNat % 2 := nat_mask1 _
  rw [e]
  omega
theorem andNot_2_63 {w : Int} (h0 : 0 ≤ w) (h1 : w ≤ 18446744073709551615) : Go.bits .andNot .u64 w 9223372036854775808 = w % 9223372036854775808 := by
  rw [u64_andNot w _ h0 (by omega) (by omega) (by omega)]
  have e : w.toNat &&& (18446744073709551615 - (9223372036854775808 : Int).toNat) = w.toNat % 9223372036854775808 := nat_mask63 _
  rw [e]
  omega
theorem or_2_63 {w : Int} (h0 : 0 ≤ w) (h1 : w < 9223372036854775808) : Go.bits .or .u64 9223372036854775808 w = 9223372036854775808 + w := by
  rw [u64_or _ w (by omega) (by omega) h0 (by omega)]
  have e : (9223372036854775808 : Int).toNat ||| w.toNat = 9223372036854775808 + w.toNat := nat_join 63 _ _ (by decide) (by omega)
  rw [e]
  omega
theorem or_1 {w : Int} (h0 : 0 ≤ w) (h1 : w ≤ 18446744073709551615) (h2 : w % 2 = 0) : Go.bits .or .u64 w 1 = w + 1 := by
  rw [u64_or w _ h0 (by omega) (by omega) (by omega)]
  have e : w.toNat ||| (1 : Int).toNat = w.toNat + 1 := nat_join 1 _ _ (by omega) (by decide)
  rw [e]
  omega
theorem tdiv_nn {a b : Int} (h : 0 ≤ a) : Int.tdiv a b = a / b := Int.tdiv_eq_ediv_of_nonneg h
theorem tmod_nn {a b : Int} (h : 0 ≤ a) : Int.tmod a b = a % b := Int.tmod_eq_emod_of_nonneg h

/-! ### bytes -/
theorem ba_ext {a b : ByteArray} (h : a.data.toList = b.data.toList) : a = b := by
  cases a; cases b; simp only at h; congr 1; exact Array.toList_inj.1 h
theorem size_list (s : ByteArray) : s.data.toList.length = s.size := by rw [Array.length_toList]; rfl
theorem toList_data (s : ByteArray) : s.toList = s.data.toList := ByteArray.toList_eq s
theorem extract_list (s : ByteArray) (a b : Nat) : (s.extract a b).data.toList = (s.data.toList.drop a).take (b - a) := Lib.extract_data s a b
theorem ext_size0 (s : ByteArray) (n : Nat) (h : n ≤ s.size) : (s.extract 0 n).size = n := by rw [← size_list, extract_list, List.length_take, List.drop_zero, size_list]; omega
theorem ext_size1 (s : ByteArray) (n : Nat) : (s.extract n s.size).size = s.size - n := by rw [← size_list, extract_list, List.length_take, List.length_drop, size_list]; omega
theorem app_size (a b : ByteArray) : (a ++ b).size = a.size + b.size := by rw [← size_list, ByteArray.data_append, Array.toList_append, List.length_append, size_list, size_list]
theorem append_list (a b : ByteArray) : (a ++ b).data.toList = a.data.toList ++ b.data.toList := by rw [ByteArray.data_append, Array.toList_append]
theorem bt_list (s : ByteArray) (i : Nat) : bt s (i : Int) = (((s.data.toList).getD i 0).toNat : Int) := by
  unfold bt
  split
  · rename_i h
    have h' : i < s.size := by simpa using h
    have h2 : i < s.data.toList.length := by rw [size_list]; exact h'
    rw [List.getD_eq_getElem?_getD, List.getElem?_eq_getElem h2]
    rfl
  · rename_i h
    have h' : ¬ i < s.size := by simpa using h
    rw [List.getD_eq_getElem?_getD, List.getElem?_eq_none (by rw [size_list]; omega)]
    rfl
theorem bt_rng (s : ByteArray) (i : Int) : 0 ≤ bt s i ∧ bt s i ≤ 255 := bt_range s i
theorem strOfNums_list (xs : List Int) : (strOfNums xs).data.toList = xs.map fun n => UInt8.ofNat n.toNat := rfl
theorem strOfNums_len (xs : List Int) : (strOfNums xs).size = xs.length := by rw [← size_list, strOfNums_list, List.length_map]

/-! ### the order of texts -/
theorem bl_nil (l : List UInt8) : Op.bytesLess l [] = false := by cases l <;> rfl
theorem bl_irrefl (l : List UInt8) : Op.bytesLess l l = false := by
  induction l with
  | nil => rfl
  | cons a l ih => simp [Op.bytesLess, ih]
theorem bl_app (u a b : List UInt8) : Op.bytesLess (u ++ a) (u ++ b) = Op.bytesLess a b := by
  induction u with
  | nil => rfl
  | cons c u ih => simp [Op.bytesLess, ih]

/-! ### numbers laid down in groups of seven bits -/
theorem pow128 : ∀ i, i < 10 → (2 : Int) ^ (7 * i) = 128 ^ i ∧ (2 : Nat) ^ (7 * i) = 128 ^ i ∧ (128 : Int) ^ i ≤ 9223372036854775808 ∧ (i < 9 → (128 : Int) ^ i ≤ 72057594037927936) := by decide +kernel
theorem pow128_pos (i : Nat) : 0 < (128 : Int) ^ i := Int.pow_pos (by decide)
theorem pow256_pos (i : Nat) : 0 < (256 : Int) ^ i := Int.pow_pos (by decide)
/-- The bytes of a number, in at most d groups of seven bits. -/
def uvl : Nat → Nat → List Nat
  | 0, _ => []
  | d + 1, v => if 128 ≤ v then (v % 128 + 128) :: uvl d (v / 128) else [v]
def uvb (v : Nat) : ByteArray := strOfNums ((uvl 10 v).map fun (n : Nat) => (n : Int))
/-- What the first groups of a number that begins at p are worth. -/
def uval (s : ByteArray) (p : Int) : Nat → Int
  | 0 => 0
  | i + 1 => uval s p i + (bt s (p + i) % 128) * 128 ^ i
theorem uval_lt (s : ByteArray) (p : Int) : ∀ i, 0 ≤ uval s p i ∧ uval s p i < 128 ^ i
  | 0 => ⟨by simp [uval], by simp [uval]⟩
  | i + 1 => by
    have ih := uval_lt s p i
    have hq := pow128_pos i
    have hb : 0 ≤ bt s (p + i) % 128 ∧ bt s (p + i) % 128 ≤ 127 := by omega
    have h1 : 0 ≤ (bt s (p + i) % 128) * 128 ^ i := Int.mul_nonneg hb.1 (by omega)
    have h2 : (bt s (p + i) % 128) * 128 ^ i ≤ 127 * 128 ^ i := Int.mul_le_mul_of_nonneg_right hb.2 (by omega)
    have h3 : (128 : Int) ^ (i + 1) = 128 * 128 ^ i := by rw [Int.pow_succ, Int.mul_comm]
    simp only [uval]
    omega
/-- From the group i on, d groups being left, all ahead of it being followed by another one. -/
def ruvFrom (s : ByteArray) (p : Int) : Nat → Nat → Int × Int × Int
  | 0, _ => (0, p, 12)
  | d + 1, i =>
    if p + i = s.size then (0, p, 11)
    else if i = 9 ∧ bt s (p + i) > 1 then (0, p, 12)
    else if bt s (p + i) < 128 then (if bt s (p + i) = 0 ∧ i > 0 then (0, p, 13) else (uval s p (i + 1), p + i + 1, 0))
    else ruvFrom s p d (i + 1)
/-- What is read at p: the number, the place behind it, the error. -/
def ruv (s : ByteArray) (p : Int) : Int × Int × Int := if p < 0 ∨ p > s.size then (0, p, 10) else ruvFrom s p 10 0
theorem ruvFrom_good (s : ByteArray) (p : Int) (hp : 0 ≤ p) : ∀ (d i : Nat), d + i = 10 → p + i ≤ s.size →
    ((ruvFrom s p d i).2.2 = 0 ∧ 0 ≤ (ruvFrom s p d i).1 ∧ (ruvFrom s p d i).1 ≤ 18446744073709551615 ∧ p + (i : Int) < (ruvFrom s p d i).2.1 ∧ (ruvFrom s p d i).2.1 ≤ s.size ∧ (ruvFrom s p d i).2.1 ≤ p + 10) ∨
    ((ruvFrom s p d i).2.2 ≠ 0 ∧ 11 ≤ (ruvFrom s p d i).2.2 ∧ (ruvFrom s p d i).2.2 ≤ 13 ∧ (ruvFrom s p d i).1 = 0 ∧ (ruvFrom s p d i).2.1 = p)
  | 0, i, _, _ => by right; simp [ruvFrom]
  | d + 1, i, hd, hi => by
    by_cases h1 : p + i = s.size
    · right; simp [ruvFrom, h1]
    · by_cases h2 : i = 9 ∧ bt s (p + i) > 1
      · right; simp only [ruvFrom, if_neg h1, if_pos h2]; simp
      · by_cases h3 : bt s (p + i) < 128
        · by_cases h4 : bt s (p + i) = 0 ∧ i > 0
          · right; simp only [ruvFrom, if_neg h1, if_neg h2, if_pos h3, if_pos h4]; simp
          · left
            simp only [ruvFrom, if_neg h1, if_neg h2, if_pos h3, if_neg h4]
            have h5 := uval_lt s p i
            have h6 := bt_rng s (p + i)
            have h7 := (pow128 i (by omega)).2.2
            refine ⟨trivial, (uval_lt s p (i + 1)).1, ?_, by omega, by omega, by omega⟩
            simp only [uval]
            rw [show bt s (p + i) % 128 = bt s (p + i) by omega]
            by_cases h9 : i = 9
            · subst h9
              have h8 : bt s (p + (9 : Nat)) ≤ 1 := by omega
              have : bt s (p + (9 : Nat)) * 128 ^ 9 ≤ 1 * 128 ^ 9 := Int.mul_le_mul_of_nonneg_right h8 (by decide)
              omega
            · have h10 := h7.2 (by omega)
              have hq := pow128_pos i
              have : bt s (p + i) * 128 ^ i ≤ 127 * 128 ^ i := Int.mul_le_mul_of_nonneg_right (by omega) (by omega)
              omega
        · simp only [ruvFrom, if_neg h1, if_neg h2, if_neg h3]
          have h6 := bt_rng s (p + i)
          rcases ruvFrom_good s p hp d (i + 1) (by omega) (by omega) with h | h
          · left; refine ⟨h.1, h.2.1, h.2.2.1, ?_, h.2.2.2.2.1, h.2.2.2.2.2⟩; have := h.2.2.2.1; omega
          · right; exact h
/-- What a number that was read may be. -/
theorem ruv_good (s : ByteArray) (p : Int) :
    ((ruv s p).2.2 = 0 ∧ 0 ≤ p ∧ 0 ≤ (ruv s p).1 ∧ (ruv s p).1 ≤ 18446744073709551615 ∧ p < (ruv s p).2.1 ∧ (ruv s p).2.1 ≤ s.size ∧ (ruv s p).2.1 ≤ p + 10) ∨
    ((ruv s p).2.2 ≠ 0 ∧ 10 ≤ (ruv s p).2.2 ∧ (ruv s p).2.2 ≤ 13 ∧ (ruv s p).1 = 0 ∧ (ruv s p).2.1 = p) := by
  unfold ruv
  by_cases h : p < 0 ∨ p > s.size
  · rw [if_pos h]; right; simp
  · rw [if_neg h]
    rcases ruvFrom_good s p (by omega) 10 0 rfl (by simp; omega) with g | g
    · left; refine ⟨g.1, by omega, g.2.1, g.2.2.1, ?_, g.2.2.2.2.1, g.2.2.2.2.2⟩; have := g.2.2.2.1; simp at this; exact this
    · right; refine ⟨g.1, by omega, g.2.2.1, g.2.2.2⟩
/-- The number with sign of a number. -/
def unzig (u : Int) : Int := if u % 2 = 0 then u / 2 else -1 - u / 2
def rsv (s : ByteArray) (p : Int) : Int × Int × Int := if (ruv s p).2.2 = 0 then (unzig (ruv s p).1, (ruv s p).2.1, 0) else (0, p, (ruv s p).2.2)
/-- What n bytes from p on are worth, the lowest first. -/
def fval (s : ByteArray) (p : Int) : Nat → Int
  | 0 => 0
  | i + 1 => fval s p i + bt s (p + i) * 256 ^ i
theorem fval_lt (s : ByteArray) (p : Int) : ∀ i, 0 ≤ fval s p i ∧ fval s p i < 256 ^ i
  | 0 => ⟨by simp [fval], by simp [fval]⟩
  | i + 1 => by
    have ih := fval_lt s p i
    have hq := pow256_pos i
    have hb := bt_rng s (p + i)
    have h1 : 0 ≤ (bt s (p + i)) * 256 ^ i := Int.mul_nonneg hb.1 (by omega)
    have h2 : (bt s (p + i)) * 256 ^ i ≤ 255 * 256 ^ i := Int.mul_le_mul_of_nonneg_right hb.2 (by omega)
    have h3 : (256 : Int) ^ (i + 1) = 256 * 256 ^ i := by rw [Int.pow_succ, Int.mul_comm]
    simp only [fval]
    omega
def rfix (s : ByteArray) (p : Int) (n : Nat) : Int × Int × Int := if p < 0 ∨ p > s.size then (0, p, 10) else if s.size - p < n then (0, p, 11) else (fval s p n, p + n, 0)
theorem rfix_out {s : ByteArray} {p : Int} (n : Nat) (h : p < 0 ∨ p > s.size) : rfix s p n = (0, p, 10) := by unfold rfix; rw [if_pos h]
theorem rfix_short {s : ByteArray} {p : Int} {n : Nat} (h : ¬ (p < 0 ∨ p > s.size)) (h2 : s.size - p < n) : rfix s p n = (0, p, 11) := by unfold rfix; rw [if_neg h, if_pos h2]
theorem rfix_ok {s : ByteArray} {p : Int} {n : Nat} (h : ¬ (p < 0 ∨ p > s.size)) (h2 : ¬ s.size - p < n) : rfix s p n = (fval s p n, p + n, 0) := by unfold rfix; rw [if_neg h, if_neg h2]
/-- A length of at most most, and so many bytes. -/
def rtext (s : ByteArray) (p : Int) (most : Int) : ByteArray × Int × Int :=
  if (ruv s p).2.2 = 0 then
    (if (ruv s p).1 > most then (⟨#[]⟩, p, 4) else if (ruv s p).1 > s.size - (ruv s p).2.1 then (⟨#[]⟩, p, 11)
     else (s.extract (ruv s p).2.1.toNat ((ruv s p).2.1 + (ruv s p).1).toNat, (ruv s p).2.1 + (ruv s p).1, 0))
  else (⟨#[]⟩, p, (ruv s p).2.2)

/-- The bytes of a number, the lowest first. -/
def fxl : Nat → Int → List Int
  | 0, _ => []
  | n + 1, v => (v % 256) :: fxl n (v / 256)
def fxb (n : Nat) (v : Int) : ByteArray := strOfNums (fxl n v)
/-- The number of a number with sign. -/
def zig (a : Int) : Int := if a ≥ 0 then 2 * a else -2 * a - 1

/-! ### what the bits of signed numbers are -/
theorem xor_u64_0 {x : Int} (h0 : 0 ≤ x) (h1 : x ≤ 18446744073709551615) : Go.bits .xor .u64 x 0 = x := by
  rw [u64_xor x 0 h0 (by omega) (by omega) (by omega)]
  show ((x.toNat ^^^ 0 : Nat) : Int) = x
  rw [Nat.xor_zero]
  omega
theorem xor_u64_m1 {x : Int} (h0 : 0 ≤ x) (h1 : x ≤ 18446744073709551615) : Go.bits .xor .u64 x 18446744073709551615 = 18446744073709551615 - x := by
  obtain ⟨a, rfl⟩ := Int.eq_ofNat_of_zero_le h0
  show IntKind.u64.wrap ((BitVec.ofInt 64 (a : Int) ^^^ BitVec.ofInt 64 18446744073709551615).toNat : Int) = _
  rw [show BitVec.ofInt 64 18446744073709551615 = BitVec.allOnes 64 from by decide, BitVec.xor_allOnes, BitVec.toNat_not, BitVec.ofInt_natCast, BitVec.toNat_ofNat, wu64_mod]
  omega
theorem xor_i64_0 {x : Int} (h0 : 0 ≤ x) (h1 : x ≤ 9223372036854775807) : Go.bits .xor .i64 x 0 = x := by
  obtain ⟨a, rfl⟩ := Int.eq_ofNat_of_zero_le h0
  show IntKind.i64.wrap ((BitVec.ofInt 64 (a : Int) ^^^ BitVec.ofInt 64 0).toNat : Int) = _
  rw [show BitVec.ofInt 64 0 = 0#64 from rfl, BitVec.xor_zero, BitVec.ofInt_natCast, BitVec.toNat_ofNat, IntKind.wrap_i64]
  omega
theorem xor_i64_m1 {x : Int} (h0 : 0 ≤ x) (h1 : x ≤ 9223372036854775807) : Go.bits .xor .i64 x (-1) = -1 - x := by
  obtain ⟨a, rfl⟩ := Int.eq_ofNat_of_zero_le h0
  show IntKind.i64.wrap ((BitVec.ofInt 64 (a : Int) ^^^ BitVec.ofInt 64 (-1)).toNat : Int) = _
  rw [show BitVec.ofInt 64 (-1) = BitVec.allOnes 64 from by decide, BitVec.xor_allOnes, BitVec.toNat_not, BitVec.ofInt_natCast, BitVec.toNat_ofNat, IntKind.wrap_i64]
  omega

end Go.Proofs.Ytlgagjgfenmfeaa.HCore
