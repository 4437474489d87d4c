/- Several texts of this seat laid together: HBitQA, HBitU, HBitO. -/
import Derived.Test.YtbekgkikgcmmaaaDoorHBitM
import Derived.Lib.ItoaNum
import Derived.Test.YtbekgkikgcmmaaaDoorHCanon
import Derived.Test.YtbekgkikgcmmaaaDoorHBitW
/- Plain laws on the bytes of keys and rows. -/
set_option linter.unusedVariables false
set_option linter.unusedSimpArgs false
namespace Go.Proofs.YtbekgkikgcmmaaaDoor.HBitQ
open Go.RowKit Go.Proofs.YtbekgkikgcmmaaaDoor.PBit Go.Proofs.YtbekgkikgcmmaaaDoor.HBase Go.Proofs.YtbekgkikgcmmaaaDoor.HUv Go.Proofs.YtbekgkikgcmmaaaDoorW.PrintWords Go.Proofs.YtbekgkikgcmmaaaDoorW.PrintLast Go.Proofs.YtbekgkikgcmmaaaDoorW.PrintMore Go.Proofs.YtbekgkikgcmmaaaDoor.HCore Go.Proofs.YtbekgkikgcmmaaaDoor.HBitL Go.Proofs.YtbekgkikgcmmaaaDoor.HBitT Go.Proofs.YtbekgkikgcmmaaaDoor.HBitE Go.Proofs.YtbekgkikgcmmaaaDoor.HBitF Go.Proofs.YtbekgkikgcmmaaaDoor.HBitX

theorem wr1 {i : Int} (h0 : -9223372036854775808 ≤ i ∧ i ≤ 9223372036854775807) : (IntKind.u64.wrap i < 1 ↔ i = 0) ∧ (IntKind.u64.wrap i < 2 ↔ (i = 0 ∨ i = 1)) := by
  rw [wu64_mod]
  constructor <;> constructor <;> intro h <;> omega
theorem emp (s : ByteArray) (h : s.toList = ([] : List UInt8)) : s.size = 0 := by
  rw [← size_list, ← toList_data, h]; rfl
theorem at_rounds {α : Type} {f : Nat → Option α} (hm : ∀ k, LeO (f k) (f (k + 1))) {k0 : Nat} {v : α} (h : f k0 = some v) : ∀ d, f (k0 + d) = some v
  | 0 => h
  | d + 1 => hm _ _ (at_rounds hm h d)
theorem nb_zero : nb 0 = 0 := by decide
theorem nb_step (u : Nat) (h0 : u ≠ 0) (h : u < 18446744073709551616) : nb u = 1 + nb (u / 256) := by
  unfold nb
  by_cases hu : 256 ≤ u
  · have := Lib.bitLen_shift 8 u (by omega) (by omega)
    rw [this]
    show (8 + Lib.bitLen (u / 256) + 7) / 8 = _
    omega
  · obtain ⟨a, b, c⟩ := Lib.bitLenAux_bounds 64 u (by omega) h0
    have e0 : u / 256 = 0 := by omega
    have e1 : Lib.bitLen 0 = 0 := by decide
    rw [e0, e1]
    have hb : Lib.bitLen u ≤ 8 := by
      refine Nat.le_of_not_lt fun hlt => ?_
      have h9 : 2 ^ 8 ≤ 2 ^ (Lib.bitLen u - 1) := Nat.pow_le_pow_right (by decide) (by omega)
      have : 2 ^ (Lib.bitLen u - 1) ≤ u := b
      omega
    have ha : 1 ≤ Lib.bitLen u := a
    omega
/-- The bytes of a number below 256^n, the highest first, each laid over with t. -/
def bdt (u : Nat) (t : Int) : Nat → List Int
  | 0 => []
  | i + 1 => Go.bits .xor .u8 ((u / 256 ^ i % 256 : Nat) : Int) t :: bdt u t i
theorem bdt_len (u : Nat) (t : Int) : ∀ i, (bdt u t i).length = i
  | 0 => rfl
  | i + 1 => by rw [bdt, List.length_cons, bdt_len u t i]
theorem xor0 : ∀ b : Fin 256, Go.bits .xor .u8 (b.val : Int) 0 = (b.val : Int) := by decide +kernel
theorem xor255 : ∀ b : Fin 256, Go.bits .xor .u8 (b.val : Int) 255 = 255 - (b.val : Int) := by decide +kernel
theorem bdt_0 (u : Nat) : ∀ n, bdt u 0 n = bd u n
  | 0 => rfl
  | n + 1 => by
    rw [bdt, bd, bdt_0 u n]
    congr 1
    exact xor0 ⟨u / 256 ^ n % 256, Nat.mod_lt _ (by decide)⟩
theorem turn_byte (u n : Nat) (hu : u < 18446744073709551616) (hn : n < 8) : (18446744073709551615 - u) / 256 ^ n % 256 = 255 - u / 256 ^ n % 256 := by
  have h : n = 0 ∨ n = 1 ∨ n = 2 ∨ n = 3 ∨ n = 4 ∨ n = 5 ∨ n = 6 ∨ n = 7 := by omega
  rcases h with rfl | rfl | rfl | rfl | rfl | rfl | rfl | rfl <;> simp only [Nat.reducePow] <;> omega
theorem bdt_255 (u : Nat) (hu : u < 18446744073709551616) : ∀ n, n ≤ 8 → bdt u 255 n = bd (18446744073709551615 - u) n
  | 0, _ => rfl
  | n + 1, h => by
    rw [bdt, bd, bdt_255 u hu n (by omega), turn_byte u n hu (by omega)]
    congr 1
    have hx := xor255 ⟨u / 256 ^ n % 256, Nat.mod_lt _ (by decide)⟩
    have hlt : u / 256 ^ n % 256 < 256 := Nat.mod_lt _ (by decide)
    exact hx.trans (by simp only; omega)
theorem bool_val {x : S33} (h : chk1 x = 0) (hr : -9223372036854775808 ≤ x.f1 ∧ x.f1 ≤ 9223372036854775807) (h1 : x.f0 = 1) : x.f1 = 0 ∨ x.f1 = 1 := by
  refine (wr1 hr).2.1 ?_
  unfold chk1 at h
  rw [if_neg (by omega), if_neg (by omega)] at h
  cases hv : vld x with
  | false => rw [if_pos hv] at h; cases h
  | true =>
    unfold vld at hv
    rw [if_neg (by omega), if_neg (by omega), if_pos h1, Bool.and_eq_true] at hv
    exact of_decide_eq_true hv.1
/-- A list of bytes as whole numbers. -/
def nums8 (l : List UInt8) : List Int := l.map fun b => (b.toNat : Int)
theorem zi_is (s : ByteArray) : zi s = nums8 (zz s.data.toList) := rfl
theorem bt_list (s : ByteArray) (i : Nat) (hi : i < s.size) : ∃ b, s.data.toList.drop i = b :: s.data.toList.drop (i + 1) ∧ bt s (i : Int) = (b.toNat : Int) := by
  have hl : i < s.data.toList.length := by rw [size_list]; exact hi
  refine ⟨s.data.toList[i], List.drop_eq_getElem_cons hl, ?_⟩
  rw [HCore.bt_list, List.getD, List.getElem?_eq_getElem hl]
  rfl
theorem u8_zero (b : UInt8) : (b.toNat : Int) = 0 ↔ b = 0 := by
  constructor
  · intro h
    exact UInt8.toNat_inj.1 (by have : b.toNat = 0 := by omega
                                rw [this]; rfl)
  · rintro rfl; rfl
theorem son_app (a b : List Int) : strOfNums (a ++ b) = strOfNums a ++ strOfNums b := by
  refine ba_ext ?_
  rw [strOfNums_list, append_list, strOfNums_list, strOfNums_list, List.map_append]
theorem son_bytes (s : ByteArray) : strOfNums (bytesOf s) = s := by
  refine ba_ext ?_
  rw [strOfNums_list, bytesOf, List.map_map]
  conv => rhs; rw [← List.map_id s.data.toList]
  refine List.map_congr_left fun b _ => ?_
  show UInt8.ofNat ((b.toNat : Int)).toNat = b
  rw [Int.toNat_natCast]
  exact UInt8.ofNat_toNat
theorem kwf_small (l : List S33) (hk : ∀ x ∈ l, 0 ≤ x.f0 ∧ x.f0 ≤ 3) (j : Nat) : ∀ m, m ≤ 4 → 4 * j + m ≤ l.length → 0 ≤ kwf l (4 * j + m) j ∧ kwf l (4 * j + m) j < 4 ^ m
  | 0, _, _ => by rw [Nat.add_zero, kwf_past l (4 * j) j (Nat.le_refl _)]; decide
  | m + 1, h, hl => by
    have ih := kwf_small l hk j m (by omega) (by omega)
    have h1 := hk _ (rd_mem l (4 * j + m) (by omega)).1
    rw [← Nat.add_assoc, kwf, if_pos (by omega), show (4 * j + m) % 4 = m by omega, Int.pow_succ]
    generalize (rd_T33 l ((4 * j + m : Nat) : Int)).f0 = f at h1
    have h5 : m = 0 ∨ m = 1 ∨ m = 2 ∨ m = 3 := by omega
    rcases h5 with rfl | rfl | rfl | rfl <;> simp only [Int.reducePow] at ih ⊢ <;> omega
theorem kwf_done (l : List S33) (j : Nat) : ∀ d, kwf l (4 * j + 4 + d) j = kwf l (4 * j + 4) j
  | 0 => rfl
  | d + 1 => by rw [← Nat.add_assoc, kwf, if_neg (by omega), kwf_done l j d, Int.add_zero]
end Go.Proofs.YtbekgkikgcmmaaaDoor.HBitQ

/- What is laid down of a value in a key is read back; what is read of a key is laid down again the same. -/
set_option linter.unusedVariables false
set_option linter.unusedSimpArgs false
namespace Go.Proofs.YtbekgkikgcmmaaaDoor.HBitU
open Go.RowKit Go.Proofs.YtbekgkikgcmmaaaDoor.PBit Go.Proofs.YtbekgkikgcmmaaaDoor.HBase Go.Proofs.YtbekgkikgcmmaaaDoorW.PrintWords Go.Proofs.YtbekgkikgcmmaaaDoorW.PrintLast Go.Proofs.YtbekgkikgcmmaaaDoorW.PrintMore Go.Proofs.YtbekgkikgcmmaaaDoor.HCore Go.Proofs.YtbekgkikgcmmaaaDoor.HCanon Go.Proofs.YtbekgkikgcmmaaaDoor.HBitR Go.Proofs.YtbekgkikgcmmaaaDoor.HBitV Go.Proofs.YtbekgkikgcmmaaaDoor.HBitK Go.Proofs.YtbekgkikgcmmaaaDoor.HBitL Go.Proofs.YtbekgkikgcmmaaaDoor.HBitT Go.Proofs.YtbekgkikgcmmaaaDoor.HBitE Go.Proofs.YtbekgkikgcmmaaaDoor.HBitF Go.Proofs.YtbekgkikgcmmaaaDoor.HBitX Go.Proofs.YtbekgkikgcmmaaaDoor.HBitQ

/-- Whole numbers as bytes. -/
def ub (l : List Int) : List UInt8 := l.map fun n => UInt8.ofNat n.toNat
theorem ub_app (a b : List Int) : ub (a ++ b) = ub a ++ ub b := List.map_append
theorem ub_len (a : List Int) : (ub a).length = a.length := List.length_map _
theorem ub_nums (l : List UInt8) : ub (nums8 l) = l := by
  unfold ub nums8
  rw [List.map_map]
  conv => rhs; rw [← List.map_id l]
  refine List.map_congr_left fun b _ => ?_
  show UInt8.ofNat ((b.toNat : Int)).toNat = b
  rw [Int.toNat_natCast]
  exact UInt8.ofNat_toNat
abbrev D (s : ByteArray) (p : Nat) : List UInt8 := s.data.toList.drop p
theorem D_len (s : ByteArray) (p : Nat) : (D s p).length = s.size - p := by rw [List.length_drop, size_list]
theorem D_head {s : ByteArray} {p : Nat} {b : UInt8} {t : List UInt8} (h : D s p = b :: t) : bt s (p : Int) = (b.toNat : Int) ∧ p < s.size ∧ D s (p + 1) = t := by
  have hl := congrArg List.length h
  rw [D_len, List.length_cons] at hl
  have hp : p < s.data.toList.length := by rw [size_list]; omega
  have e : D s p = s.data.toList[p] :: D s (p + 1) := List.drop_eq_getElem_cons hp
  rw [e] at h
  injection h with h1 h2
  refine ⟨?_, by omega, h2⟩
  rw [HCore.bt_list, List.getD, List.getElem?_eq_getElem hp, h1]
  rfl
theorem D_cons {s : ByteArray} {p : Nat} (hp : p < s.size) : D s p = UInt8.ofNat (bt s (p : Int)).toNat :: D s (p + 1) := by
  have hp2 : p < s.data.toList.length := by rw [size_list]; exact hp
  have e : D s p = s.data.toList[p] :: D s (p + 1) := List.drop_eq_getElem_cons hp2
  rw [e, HCore.bt_list, List.getD, List.getElem?_eq_getElem hp2]
  congr 1
  show _ = UInt8.ofNat (((s.data.toList[p]).toNat : Int)).toNat
  rw [Int.toNat_natCast]
  exact UInt8.ofNat_toNat.symm
theorem D_app {s : ByteArray} {p : Nat} {a t : List UInt8} (h : D s p = a ++ t) : D s (p + a.length) = t ∧ p + a.length ≤ max s.size p := by
  have hl := congrArg List.length h
  rw [D_len, List.length_append] at hl
  refine ⟨?_, by omega⟩
  show s.data.toList.drop (p + a.length) = t
  rw [← List.drop_drop, show s.data.toList.drop p = a ++ t from h, List.drop_left]
/-- The bytes stand there. -/
theorem At_of {s : ByteArray} {p : Nat} : ∀ {ys : List Int} {t : List UInt8}, (∀ y ∈ ys, 0 ≤ y ∧ y < 256) → D s p = ub ys ++ t → At s (p : Int) ys := by
  intro ys
  induction ys generalizing p with
  | nil => intro t _ _ j hj; simp at hj
  | cons y ys ih =>
    intro t hy h
    obtain ⟨h1, h2, h3⟩ := D_head (b := UInt8.ofNat y.toNat) (t := ub ys ++ t) h
    have hy0 := hy y List.mem_cons_self
    refine At_cons ?_ ?_
    · rw [h1]
      have : y.toNat < 256 := by omega
      rw [UInt8.toNat_ofNat']
      omega
    · exact ih (p := p + 1) (fun z hz => hy z (List.mem_cons_of_mem _ hz)) h3
theorem xor8 (b t : Int) (hb : 0 ≤ b ∧ b < 256) (ht : t = 0 ∨ t = 255) : Go.bits .xor .u8 (Go.bits .xor .u8 b t) t = b := by
  obtain ⟨n, rfl⟩ := Int.eq_ofNat_of_zero_le hb.1
  have hn : n < 256 := by omega
  rcases ht with rfl | rfl
  · rw [xor0 ⟨n, hn⟩, xor0 ⟨n, hn⟩]
  · rw [xor255 ⟨n, hn⟩]
    have := xor255 ⟨255 - n, by omega⟩
    simp only at this ⊢
    rw [show (255 : Int) - (n : Int) = ((255 - n : Nat) : Int) by omega, this]
    omega
theorem bdt_rng (u : Nat) (t : Int) (ht : t = 0 ∨ t = 255) : ∀ n, ∀ y ∈ bdt u t n, 0 ≤ y ∧ y < 256
  | 0, y, h => by cases h
  | n + 1, y, h => by
    rcases List.mem_cons.1 h with rfl | h
    · exact xor_rng _ t (by omega) ht
    · exact bdt_rng u t ht n y h
theorem bdt_get (u : Nat) (t : Int) : ∀ n m, m < n → (bdt u t n).getD m 0 = Go.bits .xor .u8 ((u / 256 ^ (n - 1 - m) % 256 : Nat) : Int) t
  | 0, m, h => by omega
  | n + 1, 0, h => by rw [bdt, List.getD_cons_zero, show n + 1 - 1 - 0 = n by omega]
  | n + 1, m + 1, h => by rw [bdt, List.getD_cons_succ, bdt_get u t n m (by omega), show n + 1 - 1 - (m + 1) = n - 1 - m by omega]
theorem bigv_fwd (s : ByteArray) (p u n : Nat) (t : Int) (ht : t = 0 ∨ t = 255) (h : At s (p : Int) (bdt u t n)) : ∀ m, m ≤ n → bigv s (p : Int) t m = ((u / 256 ^ (n - m) % 256 ^ m : Nat) : Int)
  | 0, _ => by rw [bigv, Nat.pow_zero, Nat.mod_one]; rfl
  | m + 1, hm => by
    have hb := h m (by rw [bdt_len]; omega)
    rw [bdt_get u t n m (by omega)] at hb
    rw [bigv, bigv_fwd s p u n t ht h m (by omega), hb, xor8 _ t (by omega) ht]
    rw [show n - m = (n - (m + 1)) + 1 by omega, show n - 1 - m = n - (m + 1) by omega, Nat.pow_succ, ← Nat.div_div_eq_div_mul]
    generalize u / 256 ^ (n - (m + 1)) = w
    rw [Nat.pow_succ, Nat.mul_comm, Nat.mod_mul]
    generalize w / 256 % 256 ^ m = z
    omega
theorem nb_lt : ∀ d u, nb u = d → u < 18446744073709551616 → u < 256 ^ d ∧ (0 < d → 256 ^ (d - 1) ≤ u)
  | 0, u, h, hu => by
    have : u = 0 := by
      refine Decidable.byContradiction fun h0 => ?_
      have := nb_step u h0 hu
      omega
    subst this
    exact ⟨by decide, fun h => absurd h (by decide)⟩
  | d + 1, u, h, hu => by
    have h0 : u ≠ 0 := fun h0 => by rw [h0, nb_zero] at h; cases h
    have h1 := nb_step u h0 hu
    obtain ⟨a, b⟩ := nb_lt d (u / 256) (by omega) (by omega)
    rw [Nat.pow_succ]
    refine ⟨by omega, fun _ => ?_⟩
    cases d with
    | zero => show 256 ^ 0 ≤ u; rw [Nat.pow_zero]; omega
    | succ d =>
      have := b (by omega)
      show 256 ^ (d + 1) ≤ u
      rw [show d + 1 - 1 = d by omega] at this
      rw [Nat.pow_succ]
      omega
theorem nb_eq (u n : Nat) (hu : u < 256 ^ n) (hl : 0 < n → 256 ^ (n - 1) ≤ u) (h8 : n ≤ 8) : nb u = n := by
  have hu8 : u < 18446744073709551616 := Nat.lt_of_lt_of_le hu (Nat.pow_le_pow_right (by decide) h8)
  obtain ⟨a, b⟩ := nb_lt (nb u) u rfl hu8
  refine Nat.le_antisymm ?_ ?_
  · refine Nat.le_of_not_lt fun hlt => ?_
    have h1 := b (by omega)
    have h2 : 256 ^ n ≤ 256 ^ (nb u - 1) := Nat.pow_le_pow_right (by decide) (by omega)
    omega
  · refine Nat.le_of_not_lt fun hlt => ?_
    have h1 := hl (by omega)
    have h2 : 256 ^ nb u ≤ 256 ^ (n - 1) := Nat.pow_le_pow_right (by decide) (by omega)
    omega
theorem rdI_fwd (s : ByteArray) (p u : Nat) (t : Int) (T : List UInt8) (ht : t = 0 ∨ t = 255) (hu : u ≤ 9223372036854775807) (h : D s p = ub (bdt u t (nb u)) ++ T) (hp : p ≤ s.size) :
    rdI s (p : Int) t (nb u) = (if t = 0 then (u : Int) else -1 - (u : Int), ((p + nb u : Nat) : Int), 0) := by
  have hA := At_of (bdt_rng u t ht _) h
  have hl := congrArg List.length h
  rw [D_len, List.length_append, ub_len, bdt_len] at hl
  obtain ⟨a, b⟩ := nb_lt (nb u) u rfl (by omega)
  have hbv : bigv s (p : Int) t (nb u) = (u : Int) := by
    rw [bigv_fwd s p u (nb u) t ht hA (nb u) (Nat.le_refl _), Nat.sub_self, Nat.pow_zero, Nat.div_one, Nat.mod_eq_of_lt a]
  have hx : ¬ (0 < nb u ∧ Go.bits .xor .u8 (bt s (p : Int)) t = 0) := by
    rintro ⟨h0, h1⟩
    have h2 := bigv_fwd s p u (nb u) t ht hA 1 (by omega)
    simp only [bigv] at h2
    rw [show (p : Int) + ((0 : Nat) : Int) = (p : Int) by omega, h1, Nat.pow_one] at h2
    have h3 := b h0
    have h4 : u / 256 ^ (nb u - 1) % 256 = 0 := by omega
    have h5 : 1 ≤ u / 256 ^ (nb u - 1) := (Nat.le_div_iff_mul_le (Nat.pow_pos (by decide))).2 (by omega)
    have e6 : 256 ^ (nb u - 1) * 256 = 256 ^ nb u := by rw [← Nat.pow_succ, Nat.succ_eq_add_one, Nat.sub_add_cancel h0]
    have h6 : u / 256 ^ (nb u - 1) < 256 := (Nat.div_lt_iff_lt_mul (Nat.pow_pos (by decide))).2 (by rw [Nat.mul_comm, e6]; exact a)
    omega
  unfold rdI
  rw [if_neg (by omega), if_neg hx, hbv, if_neg (by omega)]
  rfl
theorem bigv_step (s : ByteArray) (p t : Int) (ht : t = 0 ∨ t = 255) (n u : Nat) (hu : bigv s p t n = (u : Int)) : ∀ d m, n = m + d → bigv s p t m = ((u / 256 ^ d : Nat) : Int)
  | 0, m, h => by rw [Nat.pow_zero, Nat.div_one, show m = n by omega, hu]
  | d + 1, m, h => by
    have ih := bigv_step s p t ht n u hu d (m + 1) (by omega)
    have hx := xor_rng (bt s (p + m)) t (by have := bt_rng s (p + m); omega) ht
    rw [bigv] at ih
    rw [Nat.pow_succ, ← Nat.div_div_eq_div_mul]
    generalize u / 256 ^ d = w at ih
    omega
theorem rdI_canon (s : ByteArray) (p : Nat) (t : Int) (n : Nat) (hn : n ≤ 8) (ht : t = 0 ∨ t = 255) {v q : Int} (h : rdI s (p : Int) t n = (v, q, 0)) :
    ∃ u : Nat, u ≤ 9223372036854775807 ∧ nb u = n ∧ p + n ≤ max s.size p ∧ (n ≠ 0 → p + n ≤ s.size) ∧ D s p = ub (bdt u t n) ++ D s (p + n) ∧ q = ((p + n : Nat) : Int) ∧ v = (if t = 0 then (u : Int) else -1 - (u : Int)) := by
  unfold rdI at h
  by_cases c1 : (s.size : Int) - (p : Int) < n
  · rw [if_pos c1] at h; simp at h
  rw [if_neg c1] at h
  by_cases c2 : 0 < n ∧ Go.bits .xor .u8 (bt s (p : Int)) t = 0
  · rw [if_pos c2] at h; simp at h
  rw [if_neg c2] at h
  by_cases c3 : bigv s (p : Int) t n > 9223372036854775807
  · rw [if_pos c3] at h; simp at h
  rw [if_neg c3] at h
  obtain ⟨r0, r1⟩ := bigv_rng s (p : Int) t ht n
  obtain ⟨u, hu⟩ := Int.eq_ofNat_of_zero_le r0
  simp only [Prod.mk.injEq] at h
  obtain ⟨hv, hq, _⟩ := h
  have hu1 : u < 256 ^ n := by
    have e : ((256 : Int) ^ n) = ((256 ^ n : Nat) : Int) := by rw [Int.natCast_pow]; rfl
    rw [hu, e] at r1
    exact Int.ofNat_lt.1 r1
  have hbyte : ∀ m, m < n → Go.bits .xor .u8 (bt s ((p : Int) + (m : Int))) t = ((u / 256 ^ (n - 1 - m) % 256 : Nat) : Int) := by
    intro m hm
    have h1 := bigv_step s (p : Int) t ht n u hu (n - m) m (by omega)
    have h2 := bigv_step s (p : Int) t ht n u hu (n - 1 - m) (m + 1) (by omega)
    rw [bigv, h1, show n - m = (n - 1 - m) + 1 by omega, Nat.pow_succ, ← Nat.div_div_eq_div_mul] at h2
    generalize u / 256 ^ (n - 1 - m) = w at h2 ⊢
    omega
  have hA : At s (p : Int) (bdt u t n) := by
    intro j hj
    rw [bdt_len] at hj
    rw [bdt_get u t n j hj, ← hbyte j hj, xor8 _ t (by have := bt_rng s ((p : Int) + (j : Int)); omega) ht]
  refine ⟨u, by omega, ?_, by omega, by omega, ?_, by omega, ?_⟩
  · refine nb_eq u n hu1 (fun h0 => ?_) hn
    refine Nat.le_of_not_lt fun hlt => c2 ⟨h0, ?_⟩
    have h1 := hbyte 0 h0
    rw [show (p : Int) + ((0 : Nat) : Int) = (p : Int) by omega] at h1
    rw [h1, Nat.sub_zero, Nat.div_eq_of_lt hlt]
    rfl
  · have := At_drop hA (by rw [bdt_len]; omega)
    rw [bdt_len] at this
    exact this
  · rw [← hv, hu]
theorem nums8_cons (b : UInt8) (r : List UInt8) : nums8 (b :: r) = (b.toNat : Int) :: nums8 r := rfl
theorem esc_fwd (s : ByteArray) : ∀ (r : List UInt8) (k p : Nat) (acc : List Int) (T : List UInt8), D s p = zz r ++ ([0, 1] ++ T) → acc.length + r.length ≤ 4096 → r.length + 1 ≤ k →
    esc s k (p : Int) acc = (strOfNums (acc ++ nums8 r), ((p + (zz r).length + 2 : Nat) : Int), 0)
  | [], k, p, acc, T, h, ha, hk => by
    obtain ⟨k, rfl⟩ : ∃ m, k = m + 1 := ⟨k - 1, by omega⟩
    obtain ⟨h1, h2, h3⟩ := D_head (b := 0) (t := 1 :: T) h
    obtain ⟨h4, h5, _⟩ := D_head h3
    replace h1 : bt s (p : Int) = 0 := h1
    replace h4 : bt s ((p + 1 : Nat) : Int) = 1 := h4
    rw [esc, if_pos (by omega), h1, if_pos rfl, show (p : Int) + 1 = ((p + 1 : Nat) : Int) by omega, if_pos (by omega), h4, if_pos rfl]
    simp only [nums8, List.map_nil, List.append_nil, zz, List.length_nil]
    congr 2
  | b :: r, k, p, acc, T, h, ha, hk => by
    rw [List.length_cons] at ha hk
    obtain ⟨k, rfl⟩ : ∃ m, k = m + 1 := ⟨k - 1, by omega⟩
    by_cases hz : b = 0
    · subst hz
      have e : zz (0 :: r) = 0 :: 255 :: zz r := by rw [zz, if_pos rfl]
      rw [e] at h ⊢
      obtain ⟨h1, h2, h3⟩ := D_head (b := 0) (t := 255 :: (zz r ++ ([0, 1] ++ T))) h
      obtain ⟨h4, h5, h6⟩ := D_head h3
      replace h1 : bt s (p : Int) = 0 := h1
      have h7 : bt s ((p + 1 : Nat) : Int) = 255 := h4
      rw [esc, if_pos (by omega), h1, if_pos rfl, show (p : Int) + 1 = ((p + 1 : Nat) : Int) by omega, if_pos (by omega), h7, if_neg (by decide), if_pos rfl, if_neg (by omega), show (p : Int) + 2 = ((p + 1 + 1 : Nat) : Int) by omega,
        esc_fwd s r k (p + 1 + 1) _ T h6 (by rw [List.length_append, List.length_singleton]; omega) (by omega), List.append_assoc]
      congr 2
      simp only [List.length_cons]
      omega
    · have e : zz (b :: r) = b :: zz r := by rw [zz, if_neg hz]
      rw [e] at h ⊢
      obtain ⟨h1, h2, h3⟩ := D_head (b := b) (t := zz r ++ ([0, 1] ++ T)) h
      rw [esc, if_pos (by omega), h1, if_neg (fun h => hz ((u8_zero b).1 h)), if_neg (by omega), show (p : Int) + 1 = ((p + 1 : Nat) : Int) by omega,
        esc_fwd s r k (p + 1) _ T h3 (by rw [List.length_append, List.length_singleton]; omega) (by omega), List.append_assoc, nums8_cons]
      congr 2
      simp only [List.length_cons]
      omega
theorem u8_of (s : ByteArray) (p : Nat) {b : Int} (h : bt s (p : Int) = b) : UInt8.ofNat (bt s (p : Int)).toNat = UInt8.ofNat b.toNat := by rw [h]
theorem esc_canon (s : ByteArray) : ∀ (k p : Nat) (acc : List Int) (v : ByteArray) (q : Int), acc.length ≤ 4096 → esc s k (p : Int) acc = (v, q, 0) →
    ∃ r : List UInt8, v = strOfNums (acc ++ nums8 r) ∧ acc.length + r.length ≤ 4096 ∧ q = ((p + (zz r).length + 2 : Nat) : Int) ∧ p + (zz r).length + 2 ≤ s.size ∧ D s p = zz r ++ ([0, 1] ++ D s (p + (zz r).length + 2))
  | 0, p, acc, v, q, ha, h => by simp [esc] at h
  | k + 1, p, acc, v, q, ha, h => by
    rw [esc] at h
    by_cases c1 : (p : Int) < (s.size : Int)
    · rw [if_pos c1] at h
      have hd := D_cons (s := s) (p := p) (by omega)
      by_cases c2 : bt s (p : Int) = 0
      · rw [if_pos c2, show (p : Int) + 1 = ((p + 1 : Nat) : Int) by omega, show (p : Int) + 2 = ((p + 2 : Nat) : Int) by omega] at h
        by_cases c3 : ((p + 1 : Nat) : Int) < (s.size : Int)
        · rw [if_pos c3] at h
          have hd2 := D_cons (s := s) (p := p + 1) (by omega)
          rw [c2, hd2] at hd
          by_cases c4 : bt s ((p + 1 : Nat) : Int) = 1
          · rw [if_pos c4] at h
            cases h
            refine ⟨[], by simp [nums8], by simpa using ha, rfl, ?_, ?_⟩
            · show p + 0 + 2 ≤ s.size
              omega
            · rw [hd, c4]
              rfl
          · rw [if_neg c4] at h
            by_cases c5 : bt s ((p + 1 : Nat) : Int) = 255
            · rw [if_pos c5] at h
              by_cases c6 : (acc.length : Int) = 4096
              · rw [if_pos c6] at h; simp at h
              · rw [if_neg c6, c2] at h
                obtain ⟨r, e1, e2, e3, e4, e5⟩ := esc_canon s k (p + 2) _ v q (by rw [List.length_append, List.length_singleton]; omega) h
                have ez : zz (0 :: r) = 0 :: 255 :: zz r := by rw [zz, if_pos rfl]
                refine ⟨0 :: r, by rw [e1, List.append_assoc]; rfl, by rw [List.length_append, List.length_singleton] at e2; rw [List.length_cons]; omega, ?_, ?_, ?_⟩
                · rw [e3, ez, List.length_cons, List.length_cons]; omega
                · rw [ez, List.length_cons, List.length_cons]; omega
                · rw [hd, c5, ez, show D s (p + 1 + 1) = D s (p + 2) from rfl, e5, List.length_cons, List.length_cons, show p + ((zz r).length + 1 + 1) + 2 = p + 2 + (zz r).length + 2 by omega]
                  rfl
            · rw [if_neg c5] at h; simp at h
        · rw [if_neg c3] at h; simp at h
      · rw [if_neg c2] at h
        by_cases c6 : (acc.length : Int) = 4096
        · rw [if_pos c6] at h; simp at h
        · rw [if_neg c6, show (p : Int) + 1 = ((p + 1 : Nat) : Int) by omega] at h
          obtain ⟨r, e1, e2, e3, e4, e5⟩ := esc_canon s k (p + 1) _ v q (by rw [List.length_append, List.length_singleton]; omega) h
          have hb := bt_rng s (p : Int)
          have hz : UInt8.ofNat (bt s (p : Int)).toNat ≠ 0 := by
            intro hz
            have := congrArg UInt8.toNat hz
            rw [UInt8.toNat_ofNat'] at this
            have h0 : (0 : UInt8).toNat = 0 := rfl
            omega
          have hn : ((UInt8.ofNat (bt s (p : Int)).toNat).toNat : Int) = bt s (p : Int) := by
            rw [UInt8.toNat_ofNat']
            omega
          have ez : zz (UInt8.ofNat (bt s (p : Int)).toNat :: r) = UInt8.ofNat (bt s (p : Int)).toNat :: zz r := by rw [zz, if_neg hz]
          refine ⟨UInt8.ofNat (bt s (p : Int)).toNat :: r, by rw [e1, List.append_assoc, nums8_cons, hn]; rfl, by rw [List.length_append, List.length_singleton] at e2; rw [List.length_cons]; omega, ?_, ?_, ?_⟩
          · rw [e3, ez, List.length_cons]; omega
          · rw [ez, List.length_cons]; omega
          · rw [hd, ez, e5, List.length_cons, show p + ((zz r).length + 1) + 2 = p + 1 + (zz r).length + 2 by omega]
            rfl
    · rw [if_neg c1] at h; simp at h
theorem emp_eq (s : ByteArray) (h : s.toList = ([] : List UInt8)) : s = ⟨#[]⟩ := by
  refine ba_ext ?_
  rw [← toList_data, h]
theorem emp_of {s : ByteArray} (h : s.toList.isEmpty = true) : s = ⟨#[]⟩ := emp_eq s (List.isEmpty_iff.1 h)
/-- What a value that may stand is. -/
theorem shape_of {x : S33} (h : chk1 x = 0) (hr : -9223372036854775808 ≤ x.f1 ∧ x.f1 ≤ 9223372036854775807) :
    x = ⟨0, 0, ⟨#[]⟩⟩ ∨ x = ⟨1, 0, ⟨#[]⟩⟩ ∨ x = ⟨1, 1, ⟨#[]⟩⟩ ∨ x = ⟨2, x.f1, ⟨#[]⟩⟩ ∨ (x = ⟨3, 0, x.f2⟩ ∧ x.f2.size ≤ 4096) := by
  have hs := size_of h
  have hk := kind_of h
  obtain ⟨e1, e2⟩ := wr1 hr
  have hb := fun h1 => bool_val h hr h1
  unfold chk1 at h
  rw [if_neg (by omega), if_neg (by omega)] at h
  cases hv : vld x with
  | false => rw [if_pos hv] at h; cases h
  | true =>
    unfold vld at hv
    obtain ⟨f0, f1, f2⟩ := x
    dsimp only at *
    have h4 : f0 = 0 ∨ f0 = 1 ∨ f0 = 2 ∨ f0 = 3 := by omega
    rcases h4 with rfl | rfl | rfl | rfl
    · rw [if_neg (by decide), if_neg (by decide), if_neg (by decide), Bool.and_eq_true] at hv
      left
      rw [e1.1 (of_decide_eq_true hv.1), emp_of hv.2]
    · rw [if_neg (by decide), if_neg (by decide), if_pos rfl, Bool.and_eq_true] at hv
      rw [emp_of hv.2]
      rcases hb rfl with rfl | rfl
      · exact Or.inr (Or.inl rfl)
      · exact Or.inr (Or.inr (Or.inl rfl))
    · rw [if_pos rfl] at hv
      rw [emp_of hv]
      exact Or.inr (Or.inr (Or.inr (Or.inl rfl)))
    · rw [if_neg (by decide), if_pos rfl] at hv
      rw [e1.1 (of_decide_eq_true hv)]
      exact Or.inr (Or.inr (Or.inr (Or.inr ⟨rfl, hs⟩)))
theorem ub1 (b : Int) (l : List Int) (T : List UInt8) : ub (b :: l) ++ T = UInt8.ofNat b.toNat :: (ub l ++ T) := rfl
theorem of_nat8 {b : Int} (h : 0 ≤ b ∧ b < 256) : ((UInt8.ofNat b.toNat).toNat : Int) = b := by
  rw [UInt8.toNat_ofNat']
  omega
theorem kint_up (u : Nat) : kint (u : Int) = (56 + (nb u : Int)) :: bdt u 0 (nb u) := by
  unfold kint
  rw [if_pos (by omega), Int.toNat_natCast, bdt_0]
  rfl
theorem kint_dn (u : Nat) (hu : u ≤ 9223372036854775807) : kint (-1 - (u : Int)) = (55 - (nb u : Int)) :: bdt u 255 (nb u) := by
  unfold kint
  rw [if_neg (by omega), show (-1 - (-1 - (u : Int))).toNat = u by omega, show (-1 - (u : Int) + 18446744073709551616).toNat = 18446744073709551615 - u by omega, bdt_255 u (by omega) _ (nb_le u)]
  rfl
theorem rdV_fwd (s : ByteArray) (x : S33) (p : Nat) (T : List UInt8) (hc : chk1 x = 0) (hr : -9223372036854775808 ≤ x.f1 ∧ x.f1 ≤ 9223372036854775807) (h : D s p = ub (kb x) ++ T) :
    rdV s (p : Int) = (x, ((p + (kb x).length : Nat) : Int), 0) := by
  rcases shape_of hc hr with e | e | e | e | ⟨e, hs⟩
  · rw [e] at h ⊢
    obtain ⟨h1, h2, h3⟩ := D_head (b := 16) (t := T) h
    replace h1 : bt s (p : Int) = 16 := h1
    unfold rdV
    rw [if_pos (by omega), if_pos h1]
    rfl
  · rw [e] at h ⊢
    obtain ⟨h1, h2, h3⟩ := D_head (b := 32) (t := T) h
    replace h1 : bt s (p : Int) = 32 := h1
    unfold rdV
    rw [if_pos (by omega), h1, if_neg (by decide), if_pos (by decide)]
    rfl
  · rw [e] at h ⊢
    obtain ⟨h1, h2, h3⟩ := D_head (b := 33) (t := T) h
    replace h1 : bt s (p : Int) = 33 := h1
    unfold rdV
    rw [if_pos (by omega), h1, if_neg (by decide), if_pos (by decide)]
    rfl
  · generalize x.f1 = f1 at e hr
    subst e
    have ek : kb ⟨2, f1, ⟨#[]⟩⟩ = kint f1 := rfl
    rw [ek] at h ⊢
    by_cases hn : 0 ≤ f1
    · obtain ⟨u, rfl⟩ := Int.eq_ofNat_of_zero_le hn
      have hb := nb_le u
      rw [kint_up, ub1] at h
      obtain ⟨h1, h2, h3⟩ := D_head h
      rw [of_nat8 (by omega)] at h1
      have hI := rdI_fwd s (p + 1) u 0 T (Or.inl rfl) (by omega) h3 (by omega)
      rw [if_pos rfl] at hI
      unfold rdV
      rw [if_pos (by omega), h1, if_neg (by omega), if_neg (by omega), if_pos (by omega), show (56 + (nb u : Int) - 56).toNat = nb u by omega, show (p : Int) + 1 = ((p + 1 : Nat) : Int) by omega, hI, kint_up]
      simp only [List.length_cons, bdt_len]
      congr 3
      omega
    · obtain ⟨u, hu⟩ : ∃ u : Nat, f1 = -1 - (u : Int) := ⟨(-1 - f1).toNat, by omega⟩
      subst hu
      have hb := nb_le u
      rw [kint_dn u (by omega), ub1] at h
      obtain ⟨h1, h2, h3⟩ := D_head h
      rw [of_nat8 (by omega)] at h1
      have hI := rdI_fwd s (p + 1) u 255 T (Or.inr rfl) (by omega) h3 (by omega)
      rw [if_neg (by decide)] at hI
      unfold rdV
      rw [if_pos (by omega), h1, if_neg (by omega), if_neg (by omega), if_neg (by omega), if_pos (by omega), show (55 - (55 - (nb u : Int))).toNat = nb u by omega, show (p : Int) + 1 = ((p + 1 : Nat) : Int) by omega, hI, kint_dn u (by omega)]
      simp only [List.length_cons, bdt_len]
      congr 3
      omega
  · generalize x.f2 = f2 at e hs
    subst e
    have ek : kb ⟨3, 0, f2⟩ = [80] ++ zi f2 ++ [0, 1] := rfl
    have eu : ub ([80] ++ zi f2 ++ [0, 1]) ++ T = 80 :: (zz f2.data.toList ++ ([0, 1] ++ T)) := by
      rw [zi_is, ub_app, ub_app, ub_nums, List.append_assoc, List.append_assoc]
      rfl
    rw [ek, eu] at h
    rw [ek]
    obtain ⟨h1, h2, h3⟩ := D_head h
    replace h1 : bt s (p : Int) = 80 := h1
    have hlen := D_len s (p + 1)
    rw [h3, List.length_append] at hlen
    have hzl : f2.data.toList.length ≤ (zz f2.data.toList).length := by
      generalize f2.data.toList = r
      induction r with
      | nil => exact Nat.zero_le _
      | cons b r ih => unfold zz; split <;> simp only [List.length_cons] <;> omega
    have hE := esc_fwd s f2.data.toList (s.size + 1) (p + 1) [] T h3 (by rw [List.length_nil, size_list]; omega) (by omega)
    unfold rdV
    rw [if_pos (by omega), h1, if_neg (by decide), if_neg (by decide), if_neg (by decide), if_neg (by decide), if_pos rfl, show (p : Int) + 1 = ((p + 1 : Nat) : Int) by omega, hE, List.nil_append, show nums8 f2.data.toList = bytesOf f2 from rfl, son_bytes]
    simp only [List.length_append, List.length_cons, List.length_nil]
    have e9 : (zi f2).length = (zz f2.data.toList).length := by rw [zi_is, nums8, List.length_map]
    rw [e9]
    congr 3
    omega
theorem te : (⟨#[]⟩ : ByteArray).toList.isEmpty = true := by rw [toList_data]; rfl
theorem chk_0 : chk1 ⟨0, 0, ⟨#[]⟩⟩ = 0 := by
  have e : decide (IntKind.u64.wrap 0 < 1) = true := by decide
  have hv : vld ⟨0, 0, ⟨#[]⟩⟩ = true := by
    unfold vld
    rw [if_neg (by decide), if_neg (by decide), if_neg (by decide), te, e]
    rfl
  unfold chk1
  rw [hv]
  rfl
theorem chk_1 (b : Int) (h : b = 0 ∨ b = 1) : chk1 ⟨1, b, ⟨#[]⟩⟩ = 0 := by
  have e : decide (IntKind.u64.wrap b < 2) = true := by rcases h with rfl | rfl <;> decide
  have hv : vld ⟨1, b, ⟨#[]⟩⟩ = true := by
    unfold vld
    rw [if_neg (show ¬ (1 : Int) = 2 by decide), if_neg (show ¬ (1 : Int) = 3 by decide), if_pos rfl, te, e]
    rfl
  unfold chk1
  rw [hv]
  rfl
theorem chk_2 (v : Int) : chk1 ⟨2, v, ⟨#[]⟩⟩ = 0 := by
  have hv : vld ⟨2, v, ⟨#[]⟩⟩ = true := by
    unfold vld
    rw [if_pos rfl, te]
  unfold chk1
  rw [hv]
  rfl
theorem chk_3 (v : ByteArray) (h : v.size ≤ 4096) : chk1 ⟨3, 0, v⟩ = 0 := by
  have e : decide (IntKind.u64.wrap 0 < 1) = true := by decide
  have hv : vld ⟨3, 0, v⟩ = true := by
    unfold vld
    rw [if_neg (show ¬ (3 : Int) = 2 by decide), if_pos rfl, e]
  unfold chk1
  rw [hv, if_neg (show ¬ (3 : Int) < 0 by decide), if_neg (show ¬ (4 : Int) ≤ 3 by decide), if_neg (by decide), if_neg (by show ¬ (4096 < (v.size : Int)); omega)]
theorem rng0 : (-9223372036854775808 : Int) ≤ 0 ∧ (0 : Int) ≤ 9223372036854775807 := by omega
theorem rng1 : (-9223372036854775808 : Int) ≤ 1 ∧ (1 : Int) ≤ 9223372036854775807 := by omega
theorem rngu (u : Nat) (h : u ≤ 9223372036854775807) : (-9223372036854775808 : Int) ≤ (u : Int) ∧ (u : Int) ≤ 9223372036854775807 := by omega
theorem rngd (u : Nat) (h : u ≤ 9223372036854775807) : (-9223372036854775808 : Int) ≤ -1 - (u : Int) ∧ -1 - (u : Int) ≤ 9223372036854775807 := by omega
/-- What is read stands there as it is laid down. -/
def Stands (s : ByteArray) (p : Nat) (x : S33) (q : Int) : Prop :=
  chk1 x = 0 ∧ (-9223372036854775808 ≤ x.f1 ∧ x.f1 ≤ 9223372036854775807) ∧ q = ((p + (kb x).length : Nat) : Int) ∧ p + (kb x).length ≤ s.size ∧ D s p = ub (kb x) ++ D s (p + (kb x).length)
theorem st_one (s : ByteArray) (p : Nat) (x : S33) (b : Int) (hk : kb x = [b]) (hc : chk1 x = 0) (hr : -9223372036854775808 ≤ x.f1 ∧ x.f1 ≤ 9223372036854775807) (hp : p < s.size) (hd : D s p = UInt8.ofNat b.toNat :: D s (p + 1)) : Stands s p x ((p : Int) + 1) := by
  unfold Stands
  rw [hk]
  exact ⟨hc, hr, by rw [List.length_singleton]; omega, by rw [List.length_singleton]; omega, hd⟩
theorem kb_0 : kb ⟨0, 0, ⟨#[]⟩⟩ = [16] := if_pos rfl
theorem kb_1 (b : Int) : kb ⟨1, b, ⟨#[]⟩⟩ = [32 + b] := (if_neg (show ¬ (1 : Int) = 0 by decide)).trans (if_pos rfl)
theorem kb_2 (v : Int) : kb ⟨2, v, ⟨#[]⟩⟩ = kint v := (if_neg (show ¬ (2 : Int) = 0 by decide)).trans ((if_neg (show ¬ (2 : Int) = 1 by decide)).trans (if_pos rfl))
theorem kb_3 (v : ByteArray) : kb ⟨3, 0, v⟩ = [80] ++ zi v ++ [0, 1] := (if_neg (show ¬ (3 : Int) = 0 by decide)).trans ((if_neg (show ¬ (3 : Int) = 1 by decide)).trans (if_neg (show ¬ (3 : Int) = 2 by decide)))
theorem st_int (s : ByteArray) (p u n : Nat) (t v b q : Int) (hkb : kint v = b :: bdt u t n) (hr : -9223372036854775808 ≤ v ∧ v ≤ 9223372036854775807) (hsz : p + 1 + n ≤ s.size) (hd : D s p = UInt8.ofNat b.toNat :: D s (p + 1)) (hD : D s (p + 1) = ub (bdt u t n) ++ D s (p + 1 + n)) (hq : q = ((p + 1 + n : Nat) : Int)) : Stands s p ⟨2, v, ⟨#[]⟩⟩ q := by
  unfold Stands
  rw [kb_2, hkb, List.length_cons, bdt_len]
  refine ⟨chk_2 v, hr, by rw [hq]; omega, by omega, ?_⟩
  rw [hd, ub1, hD, show p + (n + 1) = p + 1 + n by omega]
theorem st_text (s : ByteArray) (p : Nat) (v : ByteArray) (q : Int) (hp : p < s.size) (hd : D s p = UInt8.ofNat (80 : Int).toNat :: D s (p + 1)) (r : List UInt8) (hvl : v.data.toList = r) (hvs : v.size ≤ 4096) (hq : q = ((p + 1 + (zz r).length + 2 : Nat) : Int)) (hsz : p + 1 + (zz r).length + 2 ≤ s.size)
    (hD : D s (p + 1) = zz r ++ ([0, 1] ++ D s (p + 1 + (zz r).length + 2))) : Stands s p ⟨3, 0, v⟩ q := by
  have el : (kb ⟨3, 0, v⟩).length = (zz r).length + 3 := by
    rw [kb_3, zi_is, hvl]
    simp [nums8]
  have eu : ub (kb ⟨3, 0, v⟩) = 80 :: (zz r ++ [0, 1]) := by
    rw [kb_3, zi_is, hvl, ub_app, ub_app, ub_nums]
    rfl
  unfold Stands
  refine ⟨chk_3 v hvs, rng0, by rw [el, hq]; omega, by rw [el]; omega, ?_⟩
  rw [hd, eu, el, hD, show p + ((zz r).length + 3) = p + 1 + (zz r).length + 2 by omega]
  simp
theorem rdV_canon (s : ByteArray) (p : Nat) (x : S33) (q : Int) (h : rdV s (p : Int) = (x, q, 0)) : Stands s p x q := by
  unfold rdV at h
  by_cases c0 : (p : Int) < (s.size : Int)
  · rw [if_pos c0] at h
    have hp : p < s.size := by omega
    have hd := D_cons (s := s) (p := p) hp
    have hb := bt_rng s (p : Int)
    by_cases c1 : bt s (p : Int) = 16
    · rw [if_pos c1] at h
      rw [c1] at hd
      injection h with h1 h2
      injection h2 with h2 _
      rw [← h1, ← h2]
      exact st_one s p _ 16 kb_0 chk_0 rng0 hp hd
    rw [if_neg c1] at h
    by_cases c2 : bt s (p : Int) = 32 ∨ bt s (p : Int) = 33
    · rw [if_pos c2] at h
      injection h with h1 h2
      injection h2 with h2 _
      rw [← h1, ← h2]
      rcases c2 with e | e
      · rw [e] at hd
        rw [e, show (32 : Int) - 32 = 0 from rfl]
        exact st_one s p _ 32 (kb_1 0) (chk_1 0 (Or.inl rfl)) rng0 hp hd
      · rw [e] at hd
        rw [e, show (33 : Int) - 32 = 1 from rfl]
        exact st_one s p _ 33 (kb_1 1) (chk_1 1 (Or.inr rfl)) rng1 hp hd
    rw [if_neg c2, show (p : Int) + 1 = ((p + 1 : Nat) : Int) by omega] at h
    by_cases c3 : 56 ≤ bt s (p : Int) ∧ bt s (p : Int) ≤ 64
    · rw [if_pos c3] at h
      obtain ⟨n, hn⟩ : ∃ n : Nat, bt s (p : Int) = 56 + (n : Int) := ⟨(bt s (p : Int) - 56).toNat, by omega⟩
      rw [hn] at hd
      rw [hn, show (56 + (n : Int) - 56).toNat = n by omega] at h
      obtain ⟨v, q', e, hr⟩ : ∃ v q' e, rdI s ((p + 1 : Nat) : Int) 0 n = (v, q', e) := ⟨_, _, _, rfl⟩
      rw [hr] at h
      injection h with h1 h2
      injection h2 with h2 h3
      replace h3 : e = 0 := h3
      replace h2 : q' = q := h2
      subst h3
      subst h2
      obtain ⟨u, hu, hnb, hmx, hsz, hD, hq, hv⟩ := rdI_canon s (p + 1) 0 n (by omega) (Or.inl rfl) hr
      rw [if_pos rfl] at hv
      subst hv
      rw [← h1]
      have ek := kint_up u
      rw [hnb] at ek
      exact st_int s p u n 0 _ _ _ ek (rngu u hu) (by omega) hd hD hq
    rw [if_neg c3] at h
    by_cases c4 : bt s (p : Int) < 56 ∧ 47 ≤ bt s (p : Int)
    · rw [if_pos c4] at h
      obtain ⟨n, hn⟩ : ∃ n : Nat, bt s (p : Int) = 55 - (n : Int) := ⟨(55 - bt s (p : Int)).toNat, by omega⟩
      rw [hn] at hd
      rw [hn, show (55 - (55 - (n : Int))).toNat = n by omega] at h
      obtain ⟨v, q', e, hr⟩ : ∃ v q' e, rdI s ((p + 1 : Nat) : Int) 255 n = (v, q', e) := ⟨_, _, _, rfl⟩
      rw [hr] at h
      injection h with h1 h2
      injection h2 with h2 h3
      replace h3 : e = 0 := h3
      replace h2 : q' = q := h2
      subst h3
      subst h2
      obtain ⟨u, hu, hnb, hmx, hsz, hD, hq, hv⟩ := rdI_canon s (p + 1) 255 n (by omega) (Or.inr rfl) hr
      rw [if_neg (by decide)] at hv
      subst hv
      rw [← h1]
      have ek := kint_dn u hu
      rw [hnb] at ek
      exact st_int s p u n 255 _ _ _ ek (rngd u hu) (by omega) hd hD hq
    rw [if_neg c4] at h
    by_cases c5 : bt s (p : Int) = 80
    · rw [if_pos c5] at h
      rw [c5] at hd
      obtain ⟨v, q', e, hr⟩ : ∃ v q' e, esc s (s.size + 1) ((p + 1 : Nat) : Int) [] = (v, q', e) := ⟨_, _, _, rfl⟩
      rw [hr] at h
      injection h with h1 h2
      injection h2 with h2 h3
      replace h3 : e = 0 := h3
      replace h2 : q' = q := h2
      subst h3
      subst h2
      rw [← h1]
      obtain ⟨r, hv, hlen, hq, hsz, hD⟩ := esc_canon s (s.size + 1) (p + 1) [] v q' (by simp) hr
      rw [List.nil_append] at hv
      have hvl : v.data.toList = r := by
        rw [hv, strOfNums_list]
        exact ub_nums r
      have hvs : v.size ≤ 4096 := by rw [← size_list, hvl]; simpa using hlen
      exact st_text s p v q' hp hd r hvl hvs hq hsz hD
    · rw [if_neg c5] at h
      injection h with _ h2
      injection h2 with _ h3
      cases h3
  · rw [if_neg c0] at h
    injection h with _ h2
    injection h2 with _ h3
    cases h3
theorem krun_fwd (s : ByteArray) : ∀ (l : List S33) (k p : Nat) (acc : List S33), (∀ x ∈ l, chk1 x = 0) → inr l → D s p = ub (l.flatMap kb) → acc.length + l.length ≤ 16 → l.length + 1 ≤ k → krun s k (p : Int) acc = (acc ++ l, 0)
  | [], k, p, acc, hc, hr, h, ha, hk => by
    obtain ⟨k, rfl⟩ : ∃ m, k = m + 1 := ⟨k - 1, by omega⟩
    have hl := congrArg List.length h
    rw [D_len] at hl
    rw [krun, if_neg (by simp [ub] at hl; omega), List.append_nil]
  | x :: r, k, p, acc, hc, hr, h, ha, hk => by
    rw [List.length_cons] at ha hk
    obtain ⟨k, rfl⟩ : ∃ m, k = m + 1 := ⟨k - 1, by omega⟩
    rw [List.flatMap_cons, ub_app] at h
    have hx := hc x List.mem_cons_self
    have hV := rdV_fwd s x p _ hx (hr x List.mem_cons_self) h
    have hD := (D_app h).1
    rw [ub_len] at hD
    have hp : (p : Int) < (s.size : Int) := by
      refine Decidable.byContradiction fun hp => ?_
      unfold rdV at hV
      rw [if_neg hp] at hV
      simp at hV
    rw [krun, if_pos hp, if_neg (by omega), hV, if_pos rfl, krun_fwd s r k (p + (kb x).length) _ (fun y hy => hc y (List.mem_cons_of_mem _ hy)) (fun y hy => hr y (List.mem_cons_of_mem _ hy)) hD (by rw [List.length_append, List.length_singleton]; omega) (by omega), List.append_assoc]
    rfl
theorem krun_canon (s : ByteArray) : ∀ (k p : Nat) (acc r : List S33), p ≤ s.size → acc.length ≤ 16 → krun s k (p : Int) acc = (r, 0) →
    ∃ l, r = acc ++ l ∧ acc.length + l.length ≤ 16 ∧ (∀ x ∈ l, chk1 x = 0) ∧ inr l ∧ D s p = ub (l.flatMap kb)
  | 0, p, acc, r, hp, ha, h => by simp [krun] at h
  | k + 1, p, acc, r, hp, ha, h => by
    rw [krun] at h
    by_cases c0 : (p : Int) < (s.size : Int)
    · rw [if_pos c0] at h
      by_cases c1 : (acc.length : Int) = 16
      · rw [if_pos c1] at h; simp at h
      rw [if_neg c1] at h
      obtain ⟨x, q, e, hV⟩ : ∃ x q e, rdV s (p : Int) = (x, q, e) := ⟨_, _, _, rfl⟩
      rw [hV] at h
      dsimp only at h
      by_cases c2 : e = 0
      · rw [if_pos c2] at h
        subst c2
        obtain ⟨a, b, rfl, d, f⟩ := rdV_canon s p x q hV
        obtain ⟨l, e1, e2, e3, e4, e5⟩ := krun_canon s k _ _ r d (by rw [List.length_append, List.length_singleton]; omega) h
        refine ⟨x :: l, by rw [e1, List.append_assoc]; rfl, by rw [List.length_append, List.length_singleton] at e2; rw [List.length_cons]; omega, ?_, ?_, ?_⟩
        · intro y hy
          rcases List.mem_cons.1 hy with rfl | hy
          · exact a
          · exact e3 y hy
        · intro y hy
          rcases List.mem_cons.1 hy with rfl | hy
          · exact b
          · exact e4 y hy
        · rw [f, e5, List.flatMap_cons, ub_app]
      · rw [if_neg c2] at h
        cases h
        exact absurd rfl c2
    · rw [if_neg c0] at h
      cases h
      refine ⟨[], (List.append_nil _).symm, by simpa using ha, (fun x hx => by cases hx), (fun x hx => by cases hx), ?_⟩
      exact List.drop_eq_nil_of_le (by rw [size_list]; omega)
end Go.Proofs.YtbekgkikgcmmaaaDoor.HBitU

/- What is laid down of a list as a row is read back; what is read as a row is laid down again the same. -/
set_option linter.unusedVariables false
set_option linter.unusedSimpArgs false
namespace Go.Proofs.YtbekgkikgcmmaaaDoor.HBitO
open Go.RowKit Go.Proofs.YtbekgkikgcmmaaaDoor.PBit Go.Proofs.YtbekgkikgcmmaaaDoor.HBase Go.Proofs.YtbekgkikgcmmaaaDoorW.PrintWords Go.Proofs.YtbekgkikgcmmaaaDoorW.PrintLast Go.Proofs.YtbekgkikgcmmaaaDoorW.PrintMore Go.Proofs.YtbekgkikgcmmaaaDoor.HCore Go.Proofs.YtbekgkikgcmmaaaDoor.HCanon Go.Proofs.YtbekgkikgcmmaaaDoor.HBitR Go.Proofs.YtbekgkikgcmmaaaDoor.HBitV Go.Proofs.YtbekgkikgcmmaaaDoor.HBitK Go.Proofs.YtbekgkikgcmmaaaDoor.HBitC Go.Proofs.YtbekgkikgcmmaaaDoor.HBitW Go.Proofs.YtbekgkikgcmmaaaDoor.HBitL Go.Proofs.YtbekgkikgcmmaaaDoor.HBitT Go.Proofs.YtbekgkikgcmmaaaDoor.HBitE Go.Proofs.YtbekgkikgcmmaaaDoor.HBitF Go.Proofs.YtbekgkikgcmmaaaDoor.HBitX Go.Proofs.YtbekgkikgcmmaaaDoor.HBitQ Go.Proofs.YtbekgkikgcmmaaaDoor.HBitU

theorem ub_bytes (y : ByteArray) : ub (bytesOf y) = y.data.toList := ub_nums y.data.toList
theorem zig_unzig {v : Int} (h : 0 ≤ v ∧ v < 18446744073709551616) : zig (unzig v) = v ∧ -9223372036854775808 ≤ unzig v ∧ unzig v ≤ 9223372036854775807 := by
  unfold unzig
  by_cases e : v % 2 = 0
  · rw [if_pos e]
    unfold zig
    rw [if_pos (by omega)]
    omega
  · rw [if_neg e]
    unfold zig
    rw [if_neg (by omega)]
    omega
theorem cb_0 : cb ⟨0, 0, ⟨#[]⟩⟩ = [] := if_pos rfl
theorem cb_1 (b : Int) : cb ⟨1, b, ⟨#[]⟩⟩ = [b] := (if_neg (show ¬ (1 : Int) = 0 by decide)).trans (if_pos rfl)
theorem cb_2 (v : Int) : cb ⟨2, v, ⟨#[]⟩⟩ = bytesOf (uvb (zig v).toNat) := (if_neg (show ¬ (2 : Int) = 0 by decide)).trans ((if_neg (show ¬ (2 : Int) = 1 by decide)).trans (if_pos rfl))
theorem cb_3 (v : ByteArray) : cb ⟨3, 0, v⟩ = bytesOf (uvb v.size) ++ bytesOf v := (if_neg (show ¬ (3 : Int) = 0 by decide)).trans ((if_neg (show ¬ (3 : Int) = 1 by decide)).trans (if_neg (show ¬ (3 : Int) = 2 by decide)))
theorem rdC_0 (s : ByteArray) (p : Int) : rdC s p 0 = (⟨0, 0, ⟨#[]⟩⟩, p, 0) := if_pos rfl
theorem rdC_1 (s : ByteArray) (p : Int) : rdC s p 1 = if p < (s.size : Int) then (if bt s p ≤ 1 then (⟨1, bt s p, (⟨#[]⟩ : ByteArray)⟩, p + 1, 0) else (z33, 0, 14)) else (z33, 0, 11) := (if_neg (show ¬ (1 : Int) = 0 by decide)).trans (if_pos rfl)
theorem rdC_2 (s : ByteArray) (p : Int) : rdC s p 2 = (⟨2, (rsv s p).1, (⟨#[]⟩ : ByteArray)⟩, (rsv s p).2) := (if_neg (show ¬ (2 : Int) = 0 by decide)).trans ((if_neg (show ¬ (2 : Int) = 1 by decide)).trans (if_pos rfl))
theorem rdC_3 (s : ByteArray) (p : Int) : rdC s p 3 = (⟨3, 0, (rtext s p 4096).1⟩, (rtext s p 4096).2) := (if_neg (show ¬ (3 : Int) = 0 by decide)).trans ((if_neg (show ¬ (3 : Int) = 1 by decide)).trans (if_neg (show ¬ (3 : Int) = 2 by decide)))
theorem rdC_fwd (s : ByteArray) (x : S33) (p : Nat) (T : List UInt8) (hp : p ≤ s.size) (hc : chk1 x = 0) (hr : -9223372036854775808 ≤ x.f1 ∧ x.f1 ≤ 9223372036854775807) (h : D s p = ub (cb x) ++ T) :
    rdC s (p : Int) x.f0 = (x, ((p + (cb x).length : Nat) : Int), 0) := by
  rcases shape_of hc hr with e | e | e | e | ⟨e, hs⟩
  · rw [e, cb_0]
    exact rdC_0 s p
  · rw [e, cb_1] at h
    rw [e, cb_1]
    obtain ⟨h1, h2, h3⟩ := D_head (b := 0) (t := T) h
    replace h1 : bt s (p : Int) = 0 := h1
    rw [rdC_1, if_pos (by omega), h1, if_pos (by decide)]
    rfl
  · rw [e, cb_1] at h
    rw [e, cb_1]
    obtain ⟨h1, h2, h3⟩ := D_head (b := 1) (t := T) h
    replace h1 : bt s (p : Int) = 1 := h1
    rw [rdC_1, if_pos (by omega), h1, if_pos (by decide)]
    rfl
  · generalize x.f1 = f1 at e hr
    subst e
    rw [cb_2, ub_bytes] at h
    have hz := zig_rng hr
    obtain ⟨a, b, c⟩ := ruv_fwd hp (by omega) h
    rw [rdC_2]
    unfold rsv
    rw [a, if_pos rfl, cb_2, bytesOf_length, show (((zig f1).toNat : Nat) : Int) = zig f1 by omega, unzig_zig]
  · generalize x.f2 = f2 at e hs
    subst e
    rw [cb_3, ub_app, ub_bytes, ub_bytes] at h
    obtain ⟨a, b, c⟩ := rtext_fwd (m := 4096) hp (by omega) (by omega) h
    rw [rdC_3, a, cb_3, List.length_append, bytesOf_length, bytesOf_length]
/-- What is read stands there as it is laid down in a row. -/
def StandsC (s : ByteArray) (p : Nat) (k : Int) (x : S33) (q : Int) : Prop :=
  x.f0 = k ∧ chk1 x = 0 ∧ (-9223372036854775808 ≤ x.f1 ∧ x.f1 ≤ 9223372036854775807) ∧ q = ((p + (cb x).length : Nat) : Int) ∧ p + (cb x).length ≤ s.size ∧ D s p = ub (cb x) ++ D s (p + (cb x).length)
theorem rdC_canon (s : ByteArray) (p : Nat) (k : Int) (hk : 0 ≤ k ∧ k ≤ 3) (hp : p ≤ s.size) (x : S33) (q : Int) (h : rdC s (p : Int) k = (x, q, 0)) : StandsC s p k x q := by
  have h4 : k = 0 ∨ k = 1 ∨ k = 2 ∨ k = 3 := by omega
  rcases h4 with rfl | rfl | rfl | rfl
  · rw [rdC_0] at h
    injection h with h1 h2
    injection h2 with h2 _
    rw [← h1, ← h2]
    unfold StandsC
    rw [cb_0]
    exact ⟨rfl, chk_0, rng0, rfl, hp, rfl⟩
  · rw [rdC_1] at h
    by_cases c0 : (p : Int) < (s.size : Int)
    · rw [if_pos c0] at h
      by_cases c1 : bt s (p : Int) ≤ 1
      · rw [if_pos c1] at h
        have hd := D_cons (s := s) (p := p) (by omega)
        have hb := bt_rng s (p : Int)
        injection h with h1 h2
        injection h2 with h2 _
        rw [← h1, ← h2]
        have hv : bt s (p : Int) = 0 ∨ bt s (p : Int) = 1 := by omega
        unfold StandsC
        rw [cb_1, List.length_singleton]
        refine ⟨rfl, chk_1 _ hv, ?_, by omega, by omega, hd⟩
        rcases hv with e | e <;> rw [e]
        · exact rng0
        · exact rng1
      · rw [if_neg c1] at h
        injection h with _ h2
        injection h2 with _ h3
        cases h3
    · rw [if_neg c0] at h
      injection h with _ h2
      injection h2 with _ h3
      cases h3
  · rw [rdC_2] at h
    obtain ⟨v, q0, e, hr⟩ : ∃ v q e, ruv s (p : Int) = (v, q, e) := ⟨_, _, _, rfl⟩
    unfold rsv at h
    rw [hr] at h
    dsimp only at h
    by_cases c0 : e = 0
    · rw [if_pos c0] at h
      subst c0
      obtain ⟨g0, g1, g2, g3, g4, g5⟩ := ruv_drop hr
      obtain ⟨z1, z2⟩ := zig_unzig ⟨g3, g4⟩
      injection h with h1 h2
      injection h2 with h2 _
      rw [← h1, ← h2]
      rw [Int.toNat_natCast] at g5
      have hl := congrArg List.length g5
      rw [List.length_append, D_len, D_len, size_list] at hl
      have eq : q0.toNat = p + (uvb v.toNat).size := by omega
      unfold StandsC
      rw [cb_2, bytesOf_length, z1, ub_bytes]
      refine ⟨rfl, chk_2 _, z2, by omega, by omega, ?_⟩
      rw [← eq]
      exact g5
    · rw [if_neg c0] at h
      injection h with _ h2
      injection h2 with _ h3
      exact absurd h3 c0
  · rw [rdC_3] at h
    obtain ⟨v, q0, e, hr⟩ : ∃ v q e, rtext s (p : Int) 4096 = (v, q, e) := ⟨_, _, _, rfl⟩
    rw [hr] at h
    injection h with h1 h2
    injection h2 with h2 h3
    replace h3 : e = 0 := h3
    replace h2 : q0 = q := h2
    subst h3
    subst h2
    rw [← h1]
    obtain ⟨g0, g1, g2, g3, g4⟩ := rtext_drop hr
    rw [Int.toNat_natCast] at g4
    have hl := congrArg List.length g4
    rw [List.length_append, List.length_append, D_len, D_len, size_list, size_list] at hl
    have eq : q0.toNat = p + ((uvb v.size).size + v.size) := by omega
    unfold StandsC
    rw [cb_3, List.length_append, bytesOf_length, bytesOf_length, ub_app, ub_bytes, ub_bytes]
    refine ⟨rfl, chk_3 v (by omega), rng0, by rw [← eq]; omega, by rw [← eq]; omega, ?_⟩
    rw [← eq]
    exact g4
theorem cols_fwd (s : ByteArray) : ∀ (l : List S33) (p : Nat) (acc : List S33), (∀ x ∈ l, chk1 x = 0) → inr l → p ≤ s.size → D s p = ub (l.flatMap cb) → cols s (l.map (·.f0)) (p : Int) acc = (acc ++ l, 0)
  | [], p, acc, hc, hr, hp, h => by
    have hl := congrArg List.length h
    rw [D_len] at hl
    rw [List.map_nil, cols, if_neg (by simp [ub] at hl; omega), List.append_nil]
  | x :: r, p, acc, hc, hr, hp, h => by
    rw [List.flatMap_cons, ub_app] at h
    have hV := rdC_fwd s x p _ hp (hc x List.mem_cons_self) (hr x List.mem_cons_self) h
    have hD := D_app h
    rw [ub_len] at hD
    rw [List.map_cons, cols, hV, if_pos rfl, cols_fwd s r _ _ (fun y hy => hc y (List.mem_cons_of_mem _ hy)) (fun y hy => hr y (List.mem_cons_of_mem _ hy)) (by have := hD.2; omega) hD.1, List.append_assoc]
    rfl
theorem cols_canon (s : ByteArray) : ∀ (ks : List Int) (p : Nat) (acc r : List S33), (∀ k ∈ ks, 0 ≤ k ∧ k ≤ 3) → p ≤ s.size → cols s ks (p : Int) acc = (r, 0) →
    ∃ l, r = acc ++ l ∧ l.map (·.f0) = ks ∧ (∀ x ∈ l, chk1 x = 0) ∧ inr l ∧ D s p = ub (l.flatMap cb)
  | [], p, acc, r, hk, hp, h => by
    rw [cols] at h
    by_cases c0 : (p : Int) < (s.size : Int)
    · rw [if_pos c0] at h
      injection h with _ h2
      cases h2
    · rw [if_neg c0] at h
      injection h with h1 _
      exact ⟨[], by rw [List.append_nil]; exact h1.symm, rfl, (fun x hx => by cases hx), (fun x hx => by cases hx), List.drop_eq_nil_of_le (by rw [size_list]; omega)⟩
  | k :: ks, p, acc, r, hk, hp, h => by
    rw [cols] at h
    obtain ⟨x, q, e, hV⟩ : ∃ x q e, rdC s (p : Int) k = (x, q, e) := ⟨_, _, _, rfl⟩
    rw [hV] at h
    dsimp only at h
    by_cases c2 : e = 0
    · rw [if_pos c2] at h
      subst c2
      obtain ⟨a0, a, b, rfl, d, f⟩ := rdC_canon s p k (hk k List.mem_cons_self) hp x q hV
      obtain ⟨l, e1, e2, e3, e4, e5⟩ := cols_canon s ks _ _ r (fun y hy => hk y (List.mem_cons_of_mem _ hy)) d h
      refine ⟨x :: l, by rw [e1, List.append_assoc]; rfl, by rw [List.map_cons, e2, a0], ?_, ?_, ?_⟩
      · intro y hy
        rcases List.mem_cons.1 hy with rfl | hy
        · exact a
        · exact e3 y hy
      · intro y hy
        rcases List.mem_cons.1 hy with rfl | hy
        · exact b
        · exact e4 y hy
      · rw [f, e5, List.flatMap_cons, ub_app]
    · rw [if_neg c2] at h
      injection h with _ h2
      exact absurd h2 c2
/-- The kind of value i, 0 behind the last. -/
def dg (l : List S33) (i : Nat) : Int := if i < l.length then (rd_T33 l (i : Int)).f0 else 0
theorem kwf_dg (l : List S33) (j : Nat) : kwf l l.length j = dg l (4 * j) + dg l (4 * j + 1) * 4 + dg l (4 * j + 2) * 16 + dg l (4 * j + 3) * 64 := by
  have one : ∀ m, (4 * j + m) / 4 = j ↔ m < 4 := fun m => by omega
  have h5 : l.length ≤ 4 * j ∨ l.length = 4 * j + 1 ∨ l.length = 4 * j + 2 ∨ l.length = 4 * j + 3 ∨ 4 * j + 4 ≤ l.length := by omega
  have k0 := kwf_past l (4 * j) j (Nat.le_refl _)
  have k1 : kwf l (4 * j + 1) j = (rd_T33 l ((4 * j : Nat) : Int)).f0 := by
    rw [kwf, k0, if_pos (by omega), show 4 * j % 4 = 0 by omega]; omega
  have k2 : kwf l (4 * j + 2) j = (rd_T33 l ((4 * j : Nat) : Int)).f0 + (rd_T33 l ((4 * j + 1 : Nat) : Int)).f0 * 4 := by
    rw [kwf, k1, if_pos (by omega), show (4 * j + 1) % 4 = 1 by omega]; rfl
  have k3 : kwf l (4 * j + 3) j = (rd_T33 l ((4 * j : Nat) : Int)).f0 + (rd_T33 l ((4 * j + 1 : Nat) : Int)).f0 * 4 + (rd_T33 l ((4 * j + 2 : Nat) : Int)).f0 * 16 := by
    rw [kwf, k2, if_pos (by omega), show (4 * j + 2) % 4 = 2 by omega]; rfl
  have k4 : kwf l (4 * j + 4) j = (rd_T33 l ((4 * j : Nat) : Int)).f0 + (rd_T33 l ((4 * j + 1 : Nat) : Int)).f0 * 4 + (rd_T33 l ((4 * j + 2 : Nat) : Int)).f0 * 16 + (rd_T33 l ((4 * j + 3 : Nat) : Int)).f0 * 64 := by
    rw [kwf, k3, if_pos (by omega), show (4 * j + 3) % 4 = 3 by omega]; rfl
  unfold dg
  rcases h5 with h | h | h | h | h
  · rw [if_neg (by omega), if_neg (by omega), if_neg (by omega), if_neg (by omega), kwf_past l _ j h]; rfl
  · rw [if_pos (by omega), if_neg (by omega), if_neg (by omega), if_neg (by omega), h, k1]; omega
  · rw [if_pos (by omega), if_pos (by omega), if_neg (by omega), if_neg (by omega), h, k2]; omega
  · rw [if_pos (by omega), if_pos (by omega), if_pos (by omega), if_neg (by omega), h, k3]; omega
  · rw [if_pos (by omega), if_pos (by omega), if_pos (by omega), if_pos (by omega), show kwf l l.length j = kwf l (4 * j + 4) j from by rw [show l.length = 4 * j + 4 + (l.length - (4 * j + 4)) by omega, kwf_done], k4]
theorem dg_rng (l : List S33) (hk : ∀ x ∈ l, 0 ≤ x.f0 ∧ x.f0 ≤ 3) (i : Nat) : 0 ≤ dg l i ∧ dg l i ≤ 3 := by
  unfold dg
  by_cases h : i < l.length
  · rw [if_pos h]; exact hk _ (rd_mem l i h).1
  · rw [if_neg h]; decide
theorem quad_of (a b c d : Int) (ha : 0 ≤ a ∧ a ≤ 3) (hb : 0 ≤ b ∧ b ≤ 3) (hc : 0 ≤ c ∧ c ≤ 3) (hd : 0 ≤ d ∧ d ≤ 3) : quad (a + b * 4 + c * 16 + d * 64) = [a, b, c, d] := by
  unfold quad
  congr 1
  · omega
  congr 1
  · omega
  congr 1
  · omega
  congr 1
  omega
theorem of_quad {x a b c d : Int} (h : quad x = [a, b, c, d]) : x = a + b * 4 + c * 16 + d * 64 := by
  unfold quad at h
  injection h with h1 h
  injection h with h2 h
  injection h with h3 h
  injection h with h4 h
  omega
theorem range4 (f : Nat → Int) (m : Nat) : (List.range (4 * (m + 1))).map f = (List.range (4 * m)).map f ++ [f (4 * m), f (4 * m + 1), f (4 * m + 2), f (4 * m + 3)] := by
  rw [show 4 * (m + 1) = 4 * m + 1 + 1 + 1 + 1 by omega, List.range_succ, List.range_succ, List.range_succ, List.range_succ]
  simp
theorem kl_fwd (s : ByteArray) (l : List S33) (hk : ∀ x ∈ l, 0 ≤ x.f0 ∧ x.f0 ≤ 3) (n : Nat) (h : ∀ j, j < n → bt s (1 + (j : Int)) = kwf l l.length j) : ∀ m, m ≤ n → kl s 1 m = (List.range (4 * m)).map (dg l)
  | 0, _ => rfl
  | m + 1, hm => by
    rw [kl, kl_fwd s l hk n h m (by omega), h m (by omega), kwf_dg, quad_of _ _ _ _ (dg_rng l hk _) (dg_rng l hk _) (dg_rng l hk _) (dg_rng l hk _), range4]
theorem kl_back (s : ByteArray) (l : List S33) : ∀ m, kl s 1 m = (List.range (4 * m)).map (dg l) → ∀ j, j < m → bt s (1 + (j : Int)) = kwf l l.length j
  | 0, _, j, hj => by omega
  | m + 1, h, j, hj => by
    rw [kl, range4] at h
    obtain ⟨h1, h2⟩ := List.append_inj h (by rw [kl_len]; simp)
    by_cases e : j = m
    · rw [e, kwf_dg]
      exact of_quad h2
    · exact kl_back s l m h1 j (by omega)
theorem take_dg (l : List S33) (n : Nat) (hn : l.length ≤ 4 * n) : ((List.range (4 * n)).map (dg l)).take l.length = l.map (·.f0) ∧ (((List.range (4 * n)).map (dg l)).drop l.length).all (fun k => k == 0) = true := by
  constructor
  · refine List.ext_getElem (by simp; omega) fun i h1 h2 => ?_
    simp only [List.length_map] at h2
    rw [List.getElem_take, List.getElem_map, List.getElem_map, List.getElem_range]
    unfold dg rd_T33
    rw [if_pos h2]
    simp [List.getD, List.getElem?_eq_getElem h2]
  · rw [List.all_eq_true]
    intro x hx
    obtain ⟨i, hi, e⟩ := List.mem_iff_getElem.1 hx
    rw [List.getElem_drop, List.getElem_map, List.getElem_range] at e
    unfold dg at e
    rw [if_neg (by omega)] at e
    rw [← e]
    rfl
theorem chkL_mk : ∀ l : List S33, (∀ x ∈ l, chk1 x = 0) → chkL l = 0
  | [], _ => rfl
  | x :: r, h => by
    rw [chkL, if_pos (h x List.mem_cons_self)]
    exact chkL_mk r (fun y hy => h y (List.mem_cons_of_mem _ hy))
theorem chk_mk (l : List S33) (hl : l.length ≤ 16) (h : ∀ x ∈ l, chk1 x = 0) : chk l = 0 := by
  unfold chk
  rw [if_neg (by omega)]
  exact chkL_mk l h
theorem keyB_D (l : List S33) (h : chk l = 0) : D (keyB l) 0 = ub (l.flatMap kb) := by
  unfold keyB
  rw [if_pos h]
  rfl
theorem rowB_D (l : List S33) (h : chk l = 0) : D (rowB l) 0 = ub (hdl l ((l.length + 3) / 4) l.length ++ l.flatMap cb) := by
  unfold rowB
  rw [if_pos h]
  rfl
theorem key_back (l : List S33) (h : chk l = 0) (hr : inr l) : krun (keyB l) 17 0 [] = (l, 0) := by
  obtain ⟨hl, hc⟩ := chk_all h
  have := krun_fwd (keyB l) l 17 0 [] hc hr (keyB_D l h) (by simpa using hl) (by omega)
  simpa using this
theorem key_form (s : ByteArray) (l : List S33) (h : krun s 17 0 [] = (l, 0)) : chk l = 0 ∧ inr l ∧ keyB l = s := by
  obtain ⟨l', e1, e2, e3, e4, e5⟩ := krun_canon s 17 0 [] l (Nat.zero_le _) (by simp) h
  rw [List.nil_append] at e1
  subst e1
  have hc := chk_mk l (by simpa using e2) e3
  refine ⟨hc, e4, ba_ext ?_⟩
  have := keyB_D l hc
  exact this.trans e5.symm
theorem hdl_len (l : List S33) (n i : Nat) : (hdl l n i).length = n + 1 := by
  unfold hdl
  rw [List.length_cons, List.length_map, List.length_range]
theorem kwf_rng (l : List S33) (hk : ∀ x ∈ l, 0 ≤ x.f0 ∧ x.f0 ≤ 3) (j : Nat) : 0 ≤ kwf l l.length j ∧ kwf l l.length j < 256 := by
  rw [kwf_dg]
  have h0 := dg_rng l hk (4 * j)
  have h1 := dg_rng l hk (4 * j + 1)
  have h2 := dg_rng l hk (4 * j + 2)
  have h3 := dg_rng l hk (4 * j + 3)
  omega
theorem hdl_get0 (l : List S33) (n : Nat) : (hdl l n l.length).getD 0 0 = (l.length : Int) := rfl
theorem hdl_getS (l : List S33) (n j : Nat) (h : j < n) : (hdl l n l.length).getD (j + 1) 0 = kwf l l.length j := by
  unfold hdl
  rw [List.getD_cons_succ, List.getD_eq_getElem?_getD, List.getElem?_map, List.getElem?_range h]
  rfl
theorem row_back (l : List S33) (h : chk l = 0) (hr : inr l) : rrow (rowB l) = (l, 0) := by
  obtain ⟨hl, hc⟩ := chk_all h
  have hk : ∀ x ∈ l, 0 ≤ x.f0 ∧ x.f0 ≤ 3 := fun x hx => kind_of (hc x hx)
  have hD := rowB_D l h
  obtain ⟨n, hn⟩ : ∃ n : Nat, (l.length + 3) / 4 = n := ⟨_, rfl⟩
  rw [hn, ub_app] at hD
  generalize rowB l = s at hD ⊢
  have hA := At_of (p := 0) (fun y hy => by
    unfold hdl at hy
    rcases List.mem_cons.1 hy with rfl | hy
    · exact ⟨by omega, by omega⟩
    · obtain ⟨j, _, rfl⟩ := List.mem_map.1 hy
      exact kwf_rng l hk j) hD
  have hT := D_app hD
  rw [ub_len, hdl_len, Nat.zero_add] at hT
  have hsz := congrArg List.length hD
  rw [D_len, List.length_append, ub_len, ub_len, hdl_len] at hsz
  have b0 : bt s 0 = (l.length : Int) := by
    have := hA 0 (by rw [hdl_len]; omega)
    rw [hdl_get0] at this
    simpa using this
  have bj : ∀ j, j < n → bt s (1 + (j : Int)) = kwf l l.length j := fun j hj => by
    have := hA (j + 1) (by rw [hdl_len]; omega)
    rw [hdl_getS l n j hj] at this
    rw [← this]
    congr 1
    omega
  have hK := kl_fwd s l hk n bj n (Nat.le_refl _)
  obtain ⟨t1, t2⟩ := take_dg l n (by omega)
  have hC := cols_fwd s l (n + 1) [] hc hr (by omega) hT.1
  have en : (((l.length : Int) + 3) / 4).toNat = n := by omega
  have en2 : (1 : Int) + ((l.length : Int) + 3) / 4 = ((n + 1 : Nat) : Int) := by omega
  unfold rrow
  rw [if_neg (by omega), b0, if_neg (by omega), if_neg (by omega), en, hK, Int.toNat_natCast, t2, if_neg (by decide), t1, en2, hC]
  rfl
theorem row_form (s : ByteArray) (l : List S33) (h : rrow s = (l, 0)) : chk l = 0 ∧ inr l ∧ rowB l = s := by
  unfold rrow at h
  have hb := bt_rng s 0
  by_cases c0 : ¬ 0 < (s.size : Int)
  · rw [if_pos c0] at h
    injection h with _ h2
    cases h2
  rw [if_neg c0] at h
  by_cases c1 : bt s 0 > 16
  · rw [if_pos c1] at h
    injection h with _ h2
    cases h2
  rw [if_neg c1] at h
  by_cases c2 : (s.size : Int) < 1 + (bt s 0 + 3) / 4
  · rw [if_pos c2] at h
    injection h with _ h2
    cases h2
  rw [if_neg c2] at h
  obtain ⟨c, hc⟩ : ∃ c : Nat, bt s 0 = (c : Int) := ⟨(bt s 0).toNat, by omega⟩
  obtain ⟨n, hn⟩ : ∃ n : Nat, (c + 3) / 4 = n := ⟨_, rfl⟩
  have en : (((c : Int) + 3) / 4).toNat = n := by omega
  have en2 : (1 : Int) + ((c : Int) + 3) / 4 = ((n + 1 : Nat) : Int) := by omega
  rw [hc, en, Int.toNat_natCast, en2] at h
  by_cases c3 : ((kl s 1 n).drop c).all (fun k => k == 0) = false
  · rw [if_pos c3] at h
    injection h with _ h2
    cases h2
  rw [if_neg c3] at h
  have hz : ((kl s 1 n).drop c).all (fun k => k == 0) = true := by
    cases hh : ((kl s 1 n).drop c).all (fun k => k == 0) with
    | false => exact absurd hh c3
    | true => rfl
  obtain ⟨l', e1, e2, e3, e4, e5⟩ := cols_canon s _ (n + 1) [] l (fun k hk => kl_rng s 1 n k (List.mem_of_mem_take hk)) (by omega) h
  rw [List.nil_append] at e1
  subst e1
  have hlen : l.length = c := by
    have := congrArg List.length e2
    rw [List.length_map, List.length_take, kl_len] at this
    omega
  have hch := chk_mk l (by omega) e3
  have hK : kl s 1 n = (List.range (4 * n)).map (dg l) := by
    refine List.ext_getElem (by rw [kl_len]; simp) fun i h1 h2 => ?_
    rw [List.getElem_map, List.getElem_range]
    unfold dg
    by_cases hi : i < l.length
    · rw [if_pos hi]
      have h3 : ((kl s 1 n).take c)[i]'(by rw [List.length_take]; omega) = (l.map (·.f0))[i]'(by rw [List.length_map]; exact hi) := by
        congr 1
        exact e2.symm
      rw [List.getElem_take, List.getElem_map] at h3
      rw [h3]
      unfold rd_T33
      simp [List.getD, List.getElem?_eq_getElem hi]
    · rw [if_neg hi]
      have h3 : ((kl s 1 n).drop c)[i - c]'(by rw [List.length_drop]; omega) ∈ (kl s 1 n).drop c := List.getElem_mem _
      have h4 := List.all_eq_true.1 hz _ h3
      rw [List.getElem_drop] at h4
      have h5 := beq_iff_eq.1 h4
      rw [← h5]
      congr 1
      omega
  have bj := kl_back s l n hK
  refine ⟨hch, e4, ba_ext ?_⟩
  have hA : At s ((0 : Nat) : Int) (hdl l n l.length) := by
    intro j hj
    rw [hdl_len] at hj
    cases j with
    | zero =>
      rw [hdl_get0, hlen, ← hc]
      rfl
    | succ j =>
      rw [hdl_getS l n j (by omega), ← bj j (by omega)]
      congr 1
      omega
  have hd := At_drop hA (by rw [hdl_len]; omega)
  rw [hdl_len, Nat.zero_add] at hd
  have hR := rowB_D l hch
  rw [hlen, hn] at hR
  rw [hlen] at hd
  refine hR.trans ?_
  rw [ub_app, ← e5]
  exact hd.symm
end Go.Proofs.YtbekgkikgcmmaaaDoor.HBitO
