/- What the document tells of a list as a key and as a row is what the program tells. -/
import Derived.Test.YtbekgkikgcmmaaaDoorHBitM
import Derived.Test.YtbekgkikgcmmaaaDoorPBitx3
import Derived.Test.YtbekgkikgcmmaaaDoorPBitx4
import Derived.Lib.ItoaNum
set_option linter.unusedVariables false
set_option linter.unusedSimpArgs false
namespace Go.Proofs.YtbekgkikgcmmaaaDoor.HBitQ
open Go.RowKit Go.Proofs.YtbekgkikgcmmaaaDoor.PBit Go.Proofs.YtbekgkikgcmmaaaDoor.HBase Go.Proofs.YtbekgkikgcmmaaaDoor.HUv Go.Proofs.YtbekgkikgcmmaaaDoorW.PrintWords Go.Proofs.YtbekgkikgcmmaaaDoorW.PrintLast Go.Proofs.YtbekgkikgcmmaaaDoorW.PrintMore Go.Proofs.YtbekgkikgcmmaaaDoor.HCore Go.Proofs.YtbekgkikgcmmaaaDoor.HBitL Go.Proofs.YtbekgkikgcmmaaaDoor.HBitT Go.Proofs.YtbekgkikgcmmaaaDoor.HBitE Go.Proofs.YtbekgkikgcmmaaaDoor.HBitF Go.Proofs.YtbekgkikgcmmaaaDoor.HBitX

theorem wr1 {i : Int} (h0 : -9223372036854775808 ≤ i ∧ i ≤ 9223372036854775807) : (IntKind.u64.wrap i < 1 ↔ i = 0) ∧ (IntKind.u64.wrap i < 2 ↔ (i = 0 ∨ i = 1)) := by
  rw [wu64_mod]
  constructor <;> constructor <;> intro h <;> omega
theorem emp (s : ByteArray) (h : s.toList = ([] : List UInt8)) : s.size = 0 := by
  rw [← size_list, ← toList_data, h]; rfl
theorem fault_is (x : S33) (k : Nat) (hr : -9223372036854775808 ≤ x.f1 ∧ x.f1 ≤ 9223372036854775807) : strataref01_Fault.f (k + 1) x.f0 x.f1 x.f2 = some (chk1 x) := by
  obtain ⟨e1, e2⟩ := wr1 hr
  obtain ⟨f0, f1, f2⟩ := x
  dsimp only at hr e1 e2 ⊢
  have h6 : f0 = 0 ∨ f0 = 1 ∨ f0 = 2 ∨ f0 = 3 ∨ f0 < 0 ∨ 4 ≤ f0 := by omega
  have hz : f2.toList = ([] : List UInt8) → f2.size = 0 := emp f2
  unfold strataref01_Fault.f chk1 vld
  simp only [strataref01_Fault.j0]
  generalize IntKind.u64.wrap f1 = u at e1 e2
  rcases h6 with rfl | rfl | rfl | rfl | h | h
  · by_cases a : f1 = 0 <;> by_cases b : f2.toList = ([] : List UInt8) <;> simp [a, b, e1, List.isEmpty_iff] <;> (try (have := hz b; omega)) <;> (try (intro h; exact absurd (e1.1 h) a))
  · by_cases a : f1 = 0 <;> by_cases c : f1 = 1 <;> by_cases b : f2.toList = ([] : List UInt8) <;> simp [a, b, c, e2, List.isEmpty_iff] <;> (try (have := hz b; omega))
  · by_cases b : f2.toList = ([] : List UInt8) <;> simp [b, List.isEmpty_iff] <;> (try (have := hz b; omega))
  · by_cases a : f1 = 0
    · by_cases c : 4096 < (f2.size : Int)
      · simp [a, e1.2 a, c]
      · simp [a, e1.2 a, c]
    · have : ¬ u < 1 := fun h => a (e1.1 h)
      simp [a, this]
  · rw [if_pos h, if_neg (by omega), if_neg (by omega), if_neg (by omega), if_neg (by omega)]
  · rw [if_neg (by omega), if_neg (by omega), if_neg (by omega), if_neg (by omega), if_neg (by omega), if_pos h]
theorem faults_l (l : List S33) (hl : l.length ≤ 16) (hr : inr l) : ∀ (d i : Nat), l.length = i + d → strataref01_faults.l0 (d + 2) l (i : Int) = some (chkL (l.drop i))
  | 0, i, h => by
    rw [strataref01_faults.l0, if_neg (by omega), show i = l.length by omega, List.drop_length]
    rfl
  | d + 1, i, h => by
    have hi : i < l.length := by omega
    rw [strataref01_faults.l0, if_pos (by omega), if_pos (by omega), fault_is _ _ (hr _ (rd_mem l i hi).1), Option.bind_some, chkL_at l i hi]
    by_cases hc : chk1 (rd_T33 l (i : Int)) = 0
    · rw [if_pos hc, if_pos hc, w64 (by omega) (by omega), show (i : Int) + 1 = ((i + 1 : Nat) : Int) by omega]
      exact faults_l l hl hr d (i + 1) (by omega)
    · rw [if_neg hc, if_neg hc]
theorem at_rounds {α : Type} {f : Nat → Option α} (hm : ∀ k, LeO (f k) (f (k + 1))) {k0 : Nat} {v : α} (h : f k0 = some v) : ∀ d, f (k0 + d) = some v
  | 0 => h
  | d + 1 => hm _ _ (at_rounds hm h d)
theorem faults_is (l : List S33) (hr : inr l) (k : Nat) (hk : 18 ≤ k) : strataref01_faults.f k l = some (chk l) := by
  have h18 : strataref01_faults.f 18 l = some (chk l) := by
    unfold strataref01_faults.f chk
    by_cases hl : (l.length : Int) > 16
    · rw [if_pos hl, if_pos (by omega)]
    · rw [if_neg hl, if_neg (by omega)]
      have h := faults_l l (by omega) hr l.length 0 (by omega)
      rw [show (18 : Nat) = (l.length + 2) + (16 - l.length) by omega]
      exact at_rounds (f := fun k => strataref01_faults.l0 k l 0) (fun k => strataref01_faults.mono_l k l 0) h _
  rw [show k = 18 + (k - 18) by omega]
  exact at_rounds (f := fun k => strataref01_faults.f k l) (fun k => strataref01_faults.mono l k) h18 _
theorem nb_zero : nb 0 = 0 := by decide
theorem nb_step (u : Nat) (h0 : u ≠ 0) (h : u < 18446744073709551616) : nb u = 1 + nb (u / 256) := by
  unfold nb
  by_cases hu : 256 ≤ u
  · have := Lib.bitLen_shift 8 u (by omega) (by omega)
    rw [this]
    show (8 + Lib.bitLen (u / 256) + 7) / 8 = _
    omega
  · obtain ⟨a, b, c⟩ := Lib.bitLenAux_bounds 64 u (by omega) h0
    have e0 : u / 256 = 0 := by omega
    have e1 : Lib.bitLen 0 = 0 := by decide
    rw [e0, e1]
    have hb : Lib.bitLen u ≤ 8 := by
      refine Nat.le_of_not_lt fun hlt => ?_
      have h9 : 2 ^ 8 ≤ 2 ^ (Lib.bitLen u - 1) := Nat.pow_le_pow_right (by decide) (by omega)
      have : 2 ^ (Lib.bitLen u - 1) ≤ u := b
      omega
    have ha : 1 ≤ Lib.bitLen u := a
    omega
theorem size_is : ∀ (d u n : Nat), nb u = d → u < 18446744073709551616 → n + d ≤ 100 → strataref01_size.l0 (d + 1) (u : Int) (n : Int) = some ((n + d : Nat) : Int)
  | 0, u, n, h, hu, hn => by
    have h0 : u = 0 := by
      refine Decidable.byContradiction fun h0 => ?_
      have := nb_step u h0 hu
      omega
    subst h0
    rw [strataref01_size.l0, if_neg (by decide)]
    rfl
  | d + 1, u, n, h, hu, hn => by
    have h0 : u ≠ 0 := fun h0 => by rw [h0, nb_zero] at h; cases h
    have h1 := nb_step u h0 hu
    rw [strataref01_size.l0, if_pos (by omega)]
    have e1 : IntKind.u64.wrap (Int.tdiv (u : Int) 256) = ((u / 256 : Nat) : Int) := by
      rw [Int.tdiv_eq_ediv_of_nonneg (by omega), wu64 (by omega) (by omega)]
      omega
    have e2 : wrap64 ((n : Int) + 1) = ((n + 1 : Nat) : Int) := (w64 (by omega) (by omega)).trans (by omega)
    rw [e1, e2, size_is d (u / 256) (n + 1) (by omega) (by omega) (by omega), show n + 1 + d = n + (d + 1) by omega]
/-- The bytes of a number below 256^n, the highest first, each laid over with t. -/
def bdt (u : Nat) (t : Int) : Nat → List Int
  | 0 => []
  | i + 1 => Go.bits .xor .u8 ((u / 256 ^ i % 256 : Nat) : Int) t :: bdt u t i
theorem bdt_len (u : Nat) (t : Int) : ∀ i, (bdt u t i).length = i
  | 0 => rfl
  | i + 1 => by rw [bdt, List.length_cons, bdt_len u t i]
theorem high_is (u n : Nat) (t : Int) (hu : u < 18446744073709551616) (hn : n ≤ 8) : ∀ d i : Nat, n = i + d → strataref01_high.l0 (d + 1) ((u / 256 ^ i : Nat) : Int) t (List.replicate d 0 ++ bdt u t i) ((d : Int) - 1) = some (bdt u t n)
  | 0, i, h => by
    rw [strataref01_high.l0, if_neg (by omega), show i = n by omega]
    rfl
  | d + 1, i, h => by
    rw [strataref01_high.l0, if_pos (by omega), if_pos (by omega), if_pos (by rw [List.length_append, List.length_replicate, bdt_len]; omega)]
    have e0 : u / 256 ^ i < 18446744073709551616 := Nat.lt_of_le_of_lt (Nat.div_le_self _ _) hu
    have e1 : IntKind.u64.wrap (Int.tdiv ((u / 256 ^ i : Nat) : Int) 256) = ((u / 256 ^ (i + 1) : Nat) : Int) := by
      rw [Nat.pow_succ, ← Nat.div_div_eq_div_mul, Int.tdiv_eq_ediv_of_nonneg (Int.natCast_nonneg _)]
      generalize u / 256 ^ i = v at e0
      rw [wu64 (by omega) (by omega)]
      omega
    have e2 : Int.tmod ((u / 256 ^ i : Nat) : Int) 256 % 256 = ((u / 256 ^ i % 256 : Nat) : Int) := by
      rw [Int.tmod_eq_emod_of_nonneg (Int.natCast_nonneg _)]
      generalize u / 256 ^ i = v
      omega
    have e3 : wrap64 (((d + 1 : Nat) : Int) - 1 - 1) = (d : Int) - 1 := (w64 (by omega) (by omega)).trans (by omega)
    have e4 : ((((d + 1 : Nat) : Int) - 1).toNat) = d := by omega
    rw [e1, e2, e3, e4]
    have e5 : (List.replicate (d + 1) (0 : Int) ++ bdt u t i).set d (Go.bits .xor .u8 ((u / 256 ^ i % 256 : Nat) : Int) t) = List.replicate d 0 ++ bdt u t (i + 1) := by
      rw [List.replicate_succ', List.append_assoc, List.set_append, if_neg (by rw [List.length_replicate]; omega), List.length_replicate, Nat.sub_self]
      rfl
    rw [e5]
    exact high_is u n t hu hn d (i + 1) (by omega)
theorem high_all (u n : Nat) (t : Int) (hu : u < 18446744073709551616) (hn : n ≤ 8) (k : Nat) (hk : 10 ≤ k) : strataref01_high.f k (u : Int) (n : Int) t = some (bdt u t n) := by
  have h := high_is u n t hu hn n 0 (by omega)
  rw [show k = (n + 1) + (k - (n + 1)) by omega]
  refine at_rounds (f := fun k => strataref01_high.f k (u : Int) (n : Int) t) (fun k => strataref01_high.mono u n t k) ?_ _
  show strataref01_high.f (n + 1) (u : Int) (n : Int) t = _
  unfold strataref01_high.f
  rw [if_pos (by omega), if_pos (by omega), w64 (by omega) (by omega), Int.toNat_natCast]
  simpa [bdt] using h
theorem size_all (u : Nat) (hu : u < 18446744073709551616) (k : Nat) (hk : 10 ≤ k) : strataref01_size.f k (u : Int) = some (nb u : Int) := by
  have hb := nb_le u
  have h := size_is (nb u) u 0 rfl hu (by omega)
  rw [show k = (nb u + 1) + (k - (nb u + 1)) by omega]
  refine at_rounds (f := fun k => strataref01_size.f k (u : Int)) (fun k => strataref01_size.mono u k) ?_ _
  rw [Nat.zero_add] at h
  exact h
theorem xor0 : ∀ b : Fin 256, Go.bits .xor .u8 (b.val : Int) 0 = (b.val : Int) := by decide +kernel
theorem xor255 : ∀ b : Fin 256, Go.bits .xor .u8 (b.val : Int) 255 = 255 - (b.val : Int) := by decide +kernel
theorem bdt_0 (u : Nat) : ∀ n, bdt u 0 n = bd u n
  | 0 => rfl
  | n + 1 => by
    rw [bdt, bd, bdt_0 u n]
    congr 1
    exact xor0 ⟨u / 256 ^ n % 256, Nat.mod_lt _ (by decide)⟩
theorem turn_byte (u n : Nat) (hu : u < 18446744073709551616) (hn : n < 8) : (18446744073709551615 - u) / 256 ^ n % 256 = 255 - u / 256 ^ n % 256 := by
  have h : n = 0 ∨ n = 1 ∨ n = 2 ∨ n = 3 ∨ n = 4 ∨ n = 5 ∨ n = 6 ∨ n = 7 := by omega
  rcases h with rfl | rfl | rfl | rfl | rfl | rfl | rfl | rfl <;> simp only [Nat.reducePow] <;> omega
theorem bdt_255 (u : Nat) (hu : u < 18446744073709551616) : ∀ n, n ≤ 8 → bdt u 255 n = bd (18446744073709551615 - u) n
  | 0, _ => rfl
  | n + 1, h => by
    rw [bdt, bd, bdt_255 u hu n (by omega), turn_byte u n hu (by omega)]
    congr 1
    have hx := xor255 ⟨u / 256 ^ n % 256, Nat.mod_lt _ (by decide)⟩
    have hlt : u / 256 ^ n % 256 < 256 := Nat.mod_lt _ (by decide)
    exact hx.trans (by simp only; omega)
theorem bool_val {x : S33} (h : chk1 x = 0) (hr : -9223372036854775808 ≤ x.f1 ∧ x.f1 ≤ 9223372036854775807) (h1 : x.f0 = 1) : x.f1 = 0 ∨ x.f1 = 1 := by
  refine (wr1 hr).2.1 ?_
  unfold chk1 at h
  rw [if_neg (by omega), if_neg (by omega)] at h
  cases hv : vld x with
  | false => rw [if_pos hv] at h; cases h
  | true =>
    unfold vld at hv
    rw [if_neg (by omega), if_neg (by omega), if_pos h1, Bool.and_eq_true] at hv
    exact of_decide_eq_true hv.1
theorem key_int (f1 : Int) (h : -9223372036854775808 ≤ f1 ∧ f1 ≤ 9223372036854775807) (f2 : ByteArray) (k : Nat) (hk : 11 ≤ k) : strataref01_keyOf.f k 2 f1 f2 = some (kint f1) := by
  obtain ⟨k, rfl⟩ : ∃ m, k = m + 1 := ⟨k - 1, by omega⟩
  unfold strataref01_keyOf.f kint
  rw [if_neg (by decide), if_neg (by decide), if_pos rfl]
  by_cases hn : f1 < 0
  · rw [if_pos hn, if_neg (by omega)]
    have hb := nb_le (-1 - f1).toNat
    have e1 : IntKind.u64.wrap (wrap64 (-1 - f1)) = (((-1 - f1).toNat : Nat) : Int) := by
      rw [w64 (by omega) (by omega), wu64 (by omega) (by omega)]; omega
    rw [e1, strataref01_keyOf.j0, size_all _ (by omega) k (by omega), Option.bind_some, if_pos hn, if_pos (by decide), Option.bind_some, high_all _ _ 255 (by omega) (by omega) k (by omega), Option.bind_some,
      if_pos (by rw [bdt_len]; simp; omega), bdt_255 _ (by omega) _ (by omega), tag_dn, show 18446744073709551615 - (-1 - f1).toNat = (f1 + 18446744073709551616).toNat by omega]
    rfl
  · rw [if_neg hn, if_pos (by omega)]
    have hb := nb_le f1.toNat
    have e1 : IntKind.u64.wrap f1 = ((f1.toNat : Nat) : Int) := by rw [wu64 (by omega) (by omega)]; omega
    rw [e1, strataref01_keyOf.j0, size_all _ (by omega) k (by omega), Option.bind_some, if_neg hn, if_pos (by decide), Option.bind_some, high_all _ _ 0 (by omega) (by omega) k (by omega), Option.bind_some,
      if_pos (by rw [bdt_len]; simp; omega), bdt_0, tag_up]
    rfl
/-- A list of bytes as whole numbers. -/
def nums8 (l : List UInt8) : List Int := l.map fun b => (b.toNat : Int)
theorem zi_is (s : ByteArray) : zi s = nums8 (zz s.data.toList) := rfl
theorem bt_list (s : ByteArray) (i : Nat) (hi : i < s.size) : ∃ b, s.data.toList.drop i = b :: s.data.toList.drop (i + 1) ∧ bt s (i : Int) = (b.toNat : Int) := by
  have hl : i < s.data.toList.length := by rw [size_list]; exact hi
  refine ⟨s.data.toList[i], List.drop_eq_getElem_cons hl, ?_⟩
  rw [HCore.bt_list, List.getD, List.getElem?_eq_getElem hl]
  rfl
theorem u8_zero (b : UInt8) : (b.toNat : Int) = 0 ↔ b = 0 := by
  constructor
  · intro h
    exact UInt8.toNat_inj.1 (by have : b.toNat = 0 := by omega
                                rw [this]; rfl)
  · rintro rfl; rfl
theorem text_l (f0 f1 : Int) (s : ByteArray) (hs : s.size ≤ 4096) : ∀ (d i : Nat) (acc : List Int), s.size = i + d → acc.length ≤ 3 * i + 10 →
    strataref01_keyOf.l0 (d + 1) acc (i : Int) f0 f1 s = some (acc ++ nums8 (zz (s.data.toList.drop i)) ++ [0, 1])
  | 0, i, acc, h, ha => by
    have hd : s.data.toList.drop i = [] := List.drop_eq_nil_of_le (by rw [size_list]; omega)
    rw [strataref01_keyOf.l0, if_neg (by omega), Option.bind_some, if_pos (by simp; omega), hd]
    simp [nums8, zz]
  | d + 1, i, acc, h, ha => by
    obtain ⟨b, hb, hbt⟩ := bt_list s i (by omega)
    have e2 : wrap64 ((i : Int) + 1) = ((i + 1 : Nat) : Int) := (w64 (by omega) (by omega)).trans (by omega)
    rw [strataref01_keyOf.l0, if_pos (by omega), if_pos (by omega), if_pos (by omega), Option.bind_some, hbt, e2, hb]
    by_cases hz : b = 0
    · rw [if_pos ((u8_zero b).2 hz), if_pos (by simp; omega), text_l f0 f1 s hs d (i + 1) _ (by omega) (by simp; omega)]
      subst hz
      simp [nums8, zz]
    · rw [if_neg (fun h => hz ((u8_zero b).1 h)), text_l f0 f1 s hs d (i + 1) _ (by omega) (by simp; omega)]
      simp [nums8, zz, hz]
theorem keyOf_is (x : S33) (hc : chk1 x = 0) (hr : -9223372036854775808 ≤ x.f1 ∧ x.f1 ≤ 9223372036854775807) (k : Nat) (hk : 4200 ≤ k) : strataref01_keyOf.f k x.f0 x.f1 x.f2 = some (kb x) := by
  have hs := size_of hc
  have hf := kind_of hc
  have h4 : x.f0 = 0 ∨ x.f0 = 1 ∨ x.f0 = 2 ∨ x.f0 = 3 := by omega
  rcases h4 with h | h | h | h
  · rw [show kb x = [16] from if_pos h, h]
    rfl
  · have hv : x.f1 = 0 ∨ x.f1 = 1 := bool_val hc hr h
    rw [show kb x = [32 + x.f1] from (if_neg (by omega)).trans (if_pos h), h]
    rcases hv with e | e <;> rw [e] <;> unfold strataref01_keyOf.f <;> rw [if_neg (by decide), if_pos rfl, if_pos (by decide), w64 (by decide) (by decide)] <;> rfl
  · rw [show kb x = kint x.f1 from (if_neg (by omega)).trans ((if_neg (by omega)).trans (if_pos h)), h]
    exact key_int x.f1 hr x.f2 k (by omega)
  · rw [show kb x = [80] ++ zi x.f2 ++ [0, 1] from (if_neg (by omega)).trans ((if_neg (by omega)).trans (if_neg (by omega))), h]
    have ht := text_l 3 x.f1 x.f2 hs x.f2.size 0 [80] (by omega) (by simp)
    rw [List.drop_zero] at ht
    rw [show k = (x.f2.size + 1) + (k - (x.f2.size + 1)) by omega]
    refine at_rounds (f := fun k => strataref01_keyOf.f k 3 x.f1 x.f2) (fun k => strataref01_keyOf.mono 3 x.f1 x.f2 k) ?_ _
    show strataref01_keyOf.f (x.f2.size + 1) 3 x.f1 x.f2 = _
    unfold strataref01_keyOf.f
    rw [if_neg (by decide), if_neg (by decide), if_neg (by decide), if_pos (by decide), zi_is]
    exact ht
theorem key_l (l : List S33) (hl : l.length ≤ 16) (hc : ∀ x ∈ l, chk1 x = 0) (hr : inr l) : ∀ (d i : Nat) (acc : List Int), l.length = i + d → acc.length ≤ 10000 * i →
    strataref01_Key.l0 (4200 + d + 1) l acc (i : Int) = some (strOfNums (acc ++ (l.drop i).flatMap kb), 0)
  | 0, i, acc, h, ha => by
    rw [strataref01_Key.l0, if_neg (by omega), List.drop_eq_nil_of_le (by omega)]
    simp
  | d + 1, i, acc, h, ha => by
    have hi : i < l.length := by omega
    have hm := (rd_mem l i hi).1
    have e2 : wrap64 ((i : Int) + 1) = ((i + 1 : Nat) : Int) := (w64 (by omega) (by omega)).trans (by omega)
    have e : l.drop i = rd_T33 l (i : Int) :: l.drop (i + 1) := by
      rw [List.drop_eq_getElem_cons hi]
      congr 1
      unfold rd_T33
      simp [List.getD, List.getElem?_eq_getElem hi]
    have hb := kb_len (hc _ hm)
    rw [strataref01_Key.l0, if_pos (by omega), if_pos (by omega), keyOf_is _ (hc _ hm) (hr _ hm) _ (by omega), Option.bind_some, if_pos (by omega), e2, e]
    rw [show 4200 + (d + 1) = 4200 + d + 1 by omega, key_l l hl hc hr d (i + 1) _ (by omega) (by rw [List.length_append]; omega), List.flatMap_cons, List.append_assoc]
theorem ref_key (l : List S33) (hr : inr l) (k : Nat) (hk : 4300 ≤ k) : strataref01_Key.f k l = some (keyB l, chk l) := by
  unfold strataref01_Key.f keyB
  rw [faults_is l hr k (by omega), Option.bind_some]
  by_cases h : chk l = 0
  · obtain ⟨hl, hc⟩ := chk_all h
    rw [if_pos h, if_pos h, h]
    have ht := key_l l hl hc hr l.length 0 [] (by omega) (by simp)
    rw [show k = (4200 + l.length + 1) + (k - (4200 + l.length + 1)) by omega]
    refine at_rounds (f := fun k => strataref01_Key.l0 k l [] 0) (fun k => strataref01_Key.mono_l k l [] 0) ?_ _
    simpa using ht
  · rw [if_neg h, if_neg h]
theorem son_app (a b : List Int) : strOfNums (a ++ b) = strOfNums a ++ strOfNums b := by
  refine ba_ext ?_
  rw [strOfNums_list, append_list, strOfNums_list, strOfNums_list, List.map_append]
theorem son_bytes (s : ByteArray) : strOfNums (bytesOf s) = s := by
  refine ba_ext ?_
  rw [strOfNums_list, bytesOf, List.map_map]
  conv => rhs; rw [← List.map_id s.data.toList]
  refine List.map_congr_left fun b _ => ?_
  show UInt8.ofNat ((b.toNat : Int)).toNat = b
  rw [Int.toNat_natCast]
  exact UInt8.ofNat_toNat
theorem kwf_small (l : List S33) (hk : ∀ x ∈ l, 0 ≤ x.f0 ∧ x.f0 ≤ 3) (j : Nat) : ∀ m, m ≤ 4 → 4 * j + m ≤ l.length → 0 ≤ kwf l (4 * j + m) j ∧ kwf l (4 * j + m) j < 4 ^ m
  | 0, _, _ => by rw [Nat.add_zero, kwf_past l (4 * j) j (Nat.le_refl _)]; decide
  | m + 1, h, hl => by
    have ih := kwf_small l hk j m (by omega) (by omega)
    have h1 := hk _ (rd_mem l (4 * j + m) (by omega)).1
    rw [← Nat.add_assoc, kwf, if_pos (by omega), show (4 * j + m) % 4 = m by omega, Int.pow_succ]
    generalize (rd_T33 l ((4 * j + m : Nat) : Int)).f0 = f at h1
    have h5 : m = 0 ∨ m = 1 ∨ m = 2 ∨ m = 3 := by omega
    rcases h5 with rfl | rfl | rfl | rfl <;> simp only [Int.reducePow] at ih ⊢ <;> omega
theorem kwf_done (l : List S33) (j : Nat) : ∀ d, kwf l (4 * j + 4 + d) j = kwf l (4 * j + 4) j
  | 0 => rfl
  | d + 1 => by rw [← Nat.add_assoc, kwf, if_neg (by omega), kwf_done l j d, Int.add_zero]
theorem row_l1 (l : List S33) (hl : l.length ≤ 16) (hk : ∀ x ∈ l, 0 ≤ x.f0 ∧ x.f0 ≤ 3) (x5 : ByteArray) (hx : x5.size ≤ 100) (j F : Nat) (v : ByteArray × Int) (H : strataref01_Row.l0 F l (x5 ++ strOfNums [kwf l l.length j]) ((4 * j + 4 : Nat) : Int) = some v) :
    ∀ d m, m + d = 4 → 4 * j + m ≤ l.length → strataref01_Row.l1 (F + d + 1) l x5 ((4 * j : Nat) : Int) (kwf l (4 * j + m) j) (4 ^ m) ((4 * j + m : Nat) : Int) = some v
  | 0, m, h, hm => by
    have e4 : wrap64 (((4 * j : Nat) : Int) + 4) = ((4 * j + 4 : Nat) : Int) := (w64 (by omega) (by omega)).trans (by omega)
    have hs := kwf_small l hk j 4 (by omega) (by omega)
    have e5 : kwf l (4 * j + m) j = kwf l l.length j := by
      rw [show m = 4 by omega, show l.length = 4 * j + 4 + (l.length - (4 * j + 4)) by omega, kwf_done]
    have e6 : kwf l l.length j % 256 = kwf l l.length j := by
      rw [← e5, show m = 4 by omega]
      simp only [Int.reducePow] at hs
      omega
    rw [Nat.add_zero, strataref01_Row.l1, e4, if_neg (by omega), Option.bind_some, e5, e6, if_pos (by rw [strOfNums_len]; simp; omega)]
    exact H
  | d + 1, m, h, hm => by
    have e4 : wrap64 (((4 * j : Nat) : Int) + 4) = ((4 * j + 4 : Nat) : Int) := (w64 (by omega) (by omega)).trans (by omega)
    have h5 : m = 0 ∨ m = 1 ∨ m = 2 ∨ m = 3 := by omega
    have c1 : ((4 * j + m : Nat) : Int) < ((4 * j + 4 : Nat) : Int) := by omega
    have c3 : (0 : Int) ≤ ((4 * j + m : Nat) : Int) := by omega
    have e9 : wrap64 (((4 * j + m : Nat) : Int) + 1) = ((4 * j + (m + 1) : Nat) : Int) := (w64 (by omega) (by omega)).trans (by omega)
    have hs := kwf_small l hk j m (by omega) hm
    by_cases hi : 4 * j + m < l.length
    · have h1 := hk _ (rd_mem l (4 * j + m) hi).1
      have e7 : wrap64 (kwf l (4 * j + m) j + wrap64 (4 ^ m * (rd_T33 l ((4 * j + m : Nat) : Int)).f0)) = kwf l (4 * j + (m + 1)) j := by
        rw [← Nat.add_assoc, kwf, if_pos (by omega), show (4 * j + m) % 4 = m by omega]
        generalize (rd_T33 l ((4 * j + m : Nat) : Int)).f0 = f at h1
        generalize kwf l (4 * j + m) j = c at hs
        rcases h5 with rfl | rfl | rfl | rfl <;> simp only [Int.reducePow] at hs ⊢ <;> rw [w64 (n := _ * f) (by omega) (by omega), w64 (by omega) (by omega)] <;> omega
      have e8 : wrap64 (4 * 4 ^ m) = 4 ^ (m + 1) := by
        rcases h5 with rfl | rfl | rfl | rfl <;> exact w64 (by decide) (by decide)
      have c2 : ((4 * j + m : Nat) : Int) < (l.length : Int) := Int.ofNat_lt.2 hi
      have c4 : m + 1 + d = 4 := by clear e7 e8 hs h1 e4 e9; omega
      have c5 : 4 * j + (m + 1) ≤ l.length := by clear e7 e8 hs h1 e4 e9; omega
      rw [show F + (d + 1) + 1 = (F + d + 1) + 1 from rfl, strataref01_Row.l1, e4, if_pos c1, if_pos c2, if_pos c3, e7, e8, e9]
      exact row_l1 l hl hk x5 hx j F v H d (m + 1) c4 c5
    · have e5 : kwf l (4 * j + m) j = kwf l l.length j := by rw [show 4 * j + m = l.length by omega]
      have e6 : kwf l l.length j % 256 = kwf l l.length j := by
        rw [← e5]
        generalize kwf l (4 * j + m) j = c at hs
        rcases h5 with rfl | rfl | rfl | rfl <;> simp only [Int.reducePow] at hs <;> omega
      have c2 : ¬ ((4 * j + m : Nat) : Int) < (l.length : Int) := fun hh => hi (Int.ofNat_lt.1 hh)
      rw [show F + (d + 1) + 1 = (F + d + 1) + 1 from rfl, strataref01_Row.l1, e4, if_pos c1, if_neg c2, Option.bind_some, e5, e6, if_pos (by rw [strOfNums_len]; simp; omega)]
      exact at_rounds (f := fun k => strataref01_Row.l0 k l _ _) (fun k => (strataref01_Row.mono_l k).1 l _ _) H (d + 1)
theorem row_l0 (l : List S33) (hl : l.length ≤ 16) (hk : ∀ x ∈ l, 0 ≤ x.f0 ∧ x.f0 ≤ 3) (n : Nat) (hn : (l.length + 3) / 4 = n) (F : Nat) (v : ByteArray × Int) : ∀ (d j : Nat) (x5 : ByteArray), n = j + d → x5.size ≤ 10 + j →
    strataref01_Row.l2 F l (x5 ++ strOfNums (((List.range n).drop j).map (kwf l l.length))) 0 = some v → strataref01_Row.l0 (F + 6 * d + 1) l x5 ((4 * j : Nat) : Int) = some v
  | 0, j, x5, h, hx, H => by
    rw [strataref01_Row.l0, if_neg (by omega)]
    rw [List.drop_eq_nil_of_le (by rw [List.length_range]; omega)] at H
    have e : x5 ++ strOfNums (([] : List Nat).map (kwf l l.length)) = x5 := by
      refine ba_ext ?_
      rw [append_list]
      exact List.append_nil _
    rw [e] at H
    exact H
  | d + 1, j, x5, h, hx, H => by
    have hj : j < n := by omega
    have e : (List.range n).drop j = j :: (List.range n).drop (j + 1) := by
      rw [List.drop_eq_getElem_cons (by rw [List.length_range]; exact hj), List.getElem_range]
    rw [e, List.map_cons, ← List.singleton_append, son_app, ← ByteArray.append_assoc] at H
    have ih := row_l0 l hl hk n hn F v d (j + 1) (x5 ++ strOfNums [kwf l l.length j]) (by omega) (by rw [size_app, strOfNums_len]; simp; omega) H
    have h1 := row_l1 l hl hk x5 (by omega) j (F + 6 * d + 1) v ih 4 0 (by omega) (by omega)
    rw [kwf_past l (4 * j + 0) j (by omega)] at h1
    rw [strataref01_Row.l0, if_pos (by omega), show F + 6 * (d + 1) = F + 6 * d + 1 + 4 + 1 by omega]
    exact h1
theorem row_l2 (l : List S33) (hl : l.length ≤ 16) (hc : ∀ x ∈ l, chk1 x = 0) (hr : inr l) : ∀ (d i : Nat) (acc : ByteArray), l.length = i + d → acc.size ≤ 10000 * i + 100 →
    strataref01_Row.l2 (d + 1) l acc (i : Int) = some (acc ++ strOfNums ((l.drop i).flatMap cb), 0)
  | 0, i, acc, h, ha => by
    rw [strataref01_Row.l2, if_neg (by omega), List.drop_eq_nil_of_le (by omega)]
    have e : acc ++ strOfNums (([] : List S33).flatMap cb) = acc := by
      refine ba_ext ?_
      rw [append_list]
      exact List.append_nil _
    rw [e]
  | d + 1, i, acc, h, ha => by
    have hi : i < l.length := by omega
    have hm := (rd_mem l i hi).1
    have e2 : wrap64 ((i : Int) + 1) = ((i + 1 : Nat) : Int) := (w64 (by omega) (by omega)).trans (by omega)
    have e : l.drop i = rd_T33 l (i : Int) :: l.drop (i + 1) := by
      rw [List.drop_eq_getElem_cons hi]
      congr 1
      unfold rd_T33
      simp [List.getD, List.getElem?_eq_getElem hi]
    have hcb := cb_len (hc _ hm)
    have hx := hc _ hm
    have hxr := hr _ hm
    rw [e, List.flatMap_cons, son_app, ← ByteArray.append_assoc]
    have ih := fun a (ha : a.size ≤ 10000 * (i + 1) + 100) => row_l2 l hl hc hr d (i + 1) a (by omega) ha
    clear e
    rw [strataref01_Row.l2, if_pos (by omega), if_pos (by omega), e2]
    clear e2
    generalize rd_T33 l (i : Int) = x at hcb hx hxr
    have hk := kind_of hx
    have hs := size_of hx
    by_cases h1 : x.f0 = 1
    · have hv := bool_val hx hxr h1
      have ec : cb x = [x.f1] := (if_neg (by omega)).trans (if_pos h1)
      have em : x.f1 % 256 = x.f1 := by omega
      rw [if_pos h1, Option.bind_some, em, ec, if_pos (by rw [strOfNums_len]; simp; omega)]
      exact ih _ (by rw [size_app, strOfNums_len]; simp; omega)
    · rw [if_neg h1]
      by_cases h2 : x.f0 = 2
      · have ec : cb x = bytesOf (uvb (zig x.f1).toNat) := (if_neg (by omega)).trans ((if_neg (by omega)).trans (if_pos h2))
        have es : (uvb (zig x.f1).toNat).size ≤ 10 := by rw [uvb_len]; exact uvl_len 10 _
        rw [if_pos h2, show strataref01_Svarint.f x.f1 = some (uvb (zig x.f1).toNat) from if_pos hxr, Option.bind_some, ec, son_bytes, if_pos (by omega)]
        exact ih _ (by rw [size_app]; omega)
      · rw [if_neg h2]
        by_cases h3 : x.f0 = 3
        · have ec : cb x = bytesOf (uvb x.f2.size) ++ bytesOf x.f2 := (if_neg (by omega)).trans ((if_neg (by omega)).trans (if_neg (by omega)))
          have es : (uvb x.f2.size).size ≤ 10 := by rw [uvb_len]; exact uvl_len 10 _
          have eu : strataref01_Uvarint.f (IntKind.u64.wrap (x.f2.size : Int)) = some (uvb x.f2.size) := by
            rw [wu64 (by omega) (by omega)]
            exact (if_pos ⟨by omega, by omega⟩).trans rfl
          rw [if_pos h3, eu, Option.bind_some, ec, son_app, son_bytes, son_bytes, if_pos (by omega), if_pos (by rw [size_app]; omega), ← ByteArray.append_assoc]
          exact ih _ (by rw [size_app, size_app]; omega)
        · have ec : cb x = [] := if_pos (by omega)
          have e0 : acc ++ strOfNums [] = acc := by
            refine ba_ext ?_
            rw [append_list]
            exact List.append_nil _
          rw [if_neg h3, ec, e0]
          exact ih _ (by omega)
theorem ref_row (l : List S33) (hr : inr l) (k : Nat) (hk : 100 ≤ k) : strataref01_Row.f k l = some (rowB l, chk l) := by
  unfold strataref01_Row.f rowB
  rw [faults_is l hr k (by omega), Option.bind_some]
  by_cases h : chk l = 0
  · obtain ⟨hl, hc⟩ := chk_all h
    rw [if_pos h, if_pos h, h]
    obtain ⟨n, hn⟩ : ∃ n : Nat, (l.length + 3) / 4 = n := ⟨_, rfl⟩
    have h2 := row_l2 l hl hc hr l.length 0 (strOfNums [(l.length : Int)] ++ strOfNums (((List.range n).drop 0).map (kwf l l.length))) (by omega) (by rw [size_app, strOfNums_len, strOfNums_len, List.length_map, List.drop_zero, List.length_range]; simp; omega)
    have h0 := row_l0 l hl (fun x hx => kind_of (hc x hx)) n hn (l.length + 1) _ n 0 (strOfNums [(l.length : Int)]) (by omega) (by rw [strOfNums_len]; simp) h2
    rw [show k = (l.length + 1 + 6 * n + 1) + (k - (l.length + 1 + 6 * n + 1)) by omega]
    refine at_rounds (f := fun k => strataref01_Row.l0 k l (strOfNums [(l.length : Int) % 256]) 0) (fun k => (strataref01_Row.mono_l k).1 l _ 0) ?_ _
    rw [show (l.length : Int) % 256 = (l.length : Int) by omega]
    refine h0.trans ?_
    rw [hn, List.drop_zero, List.drop_zero]
    unfold hdl
    rw [show ((l.length : Int) :: (List.range n).map (kwf l l.length)) ++ l.flatMap cb = [(l.length : Int)] ++ ((List.range n).map (kwf l l.length) ++ l.flatMap cb) from rfl, son_app, son_app, ByteArray.append_assoc]
  · rw [if_neg h, if_neg h]
end Go.Proofs.YtbekgkikgcmmaaaDoor.HBitQ
