/- BitsHashes returns true for all texts and levels: a text's number and a key's height are the document's. Conditions: the form's own reach; the library's table deBruijn32tab as its text lays it (the card ties it). -/
import Derived.Test.YtnanepgcaefhcaaDoorPBitsHashesx1
import Derived.Test.YtnanepgcaefhcaaDoorHHash
set_option linter.unusedVariables false
set_option linter.unusedSimpArgs false
namespace Go.Proofs.YtnanepgcaefhcaaDoor.Pure
open Go.RowKit Go.Proofs.YtnanepgcaefhcaaDoor.PBitsHashes Go.Proofs.YtnanepgcaefhcaaDoor.HHash Go.Proofs.YtnanepgcaefhcaaDoorW.PrintWords Go.Proofs.YtnanepgcaefhcaaDoorW.PrintLast Go.Proofs.YtnanepgcaefhcaaDoorW.PrintMore Go.Proofs.YtnanepgcaefhcaaDoor.HCore

theorem step_int (h : Nat) (b : UInt8) (hh : h < 18446744073709551616) : IntKind.u64.wrap (Go.bits .xor .u64 (h : Int) (IntKind.u64.wrap (b.toNat : Int)) * 1099511628211) = ((hstep h b : Nat) : Int) := by
  have hb : b.toNat < 256 := b.toNat_lt
  rw [wu64 (n := (b.toNat : Int)) (by omega) (by omega)]
  exact hstep_int h b hh
theorem ref_hash_loop (s : ByteArray) (hs : s.size ≤ 140737488351232) (d : Nat) : ∀ (i k h : Nat), i + d = s.size → d < k → HHash.St s i h →
    strataref01_Hash.l0 k s (h : Int) (i : Int) = some ((hashOf s.data.toList : Nat) : Int) := by
  induction d with
  | zero =>
    intro i k h hi hk hS
    obtain ⟨k, rfl⟩ : ∃ m, k = m + 1 := ⟨k - 1, by omega⟩
    simp only [strataref01_Hash.l0]
    rw [if_neg (by omega), hS.last (by omega)]
  | succ d ih =>
    intro i k h hi hk hS
    obtain ⟨k, rfl⟩ : ∃ m, k = m + 1 := ⟨k - 1, by omega⟩
    simp only [strataref01_Hash.l0]
    rw [if_pos (by omega), if_pos (by omega), bt_list, step_int h _ hS.lt, w64 (by omega) (by omega), show (i : Int) + 1 = ((i + 1 : Nat) : Int) by omega]
    exact ih (i + 1) k _ (by omega) (by omega) (hS.next (by omega))
theorem ref_hash (s : ByteArray) (hs : s.size ≤ 140737488351232) (k : Nat) (hk : s.size < k) : strataref01_Hash.f k s = some ((hashOf s.data.toList : Nat) : Int) := by
  unfold strataref01_Hash.f
  rw [← basis_int]
  exact ref_hash_loop s hs s.size 0 k basis (by omega) hk (HHash.St.start s)

/-- The part of a text's number that tells the height. -/
def top (h : Nat) : Nat := h * 11400714819323198485 % 18446744073709551616 / 1099511627776
theorem top_lt (h : Nat) : top h < 16777216 := by unfold top; omega
theorem top_int (h : Nat) : IntKind.u64.wrap ((h : Int) * 11400714819323198485) / 1099511627776 = ((top h : Nat) : Int) := by
  rw [wu64_mod]; unfold top; omega
theorem or_top (x : Nat) (hx : x < 16777216) : Go.bits .or .u32 ((x : Int) % 4294967296) 16777216 = ((x + 16777216 : Nat) : Int) := by
  rw [show (x : Int) % 4294967296 = (x : Int) by omega, u32_or _ _ (by omega) (by omega) (by omega) (by omega)]
  have e : (x : Int).toNat ||| (16777216 : Int).toNat = x + 16777216 := by
    rw [Int.toNat_natCast, show (16777216 : Int).toNat = 16777216 from rfl, Nat.or_comm, nat_join 24 16777216 x (by decide) (by omega)]
    omega
  rw [e]
theorem ctz_step {f y : Nat} (h : y % 2 = 0) : Lib.ctzFrom (f + 1) y = 1 + Lib.ctzFrom f (y / 2) := by
  rw [Lib.ctzFrom, if_neg (by omega)]
theorem ctz_odd {f y : Nat} (h : y % 2 = 1) : Lib.ctzFrom (f + 1) y = 0 := by
  rw [Lib.ctzFrom, if_pos h]
theorem pow_half (d : Nat) : 2 ^ (d + 1) / 2 = 2 ^ d ∧ 2 ^ (d + 1) % 2 = 0 := by
  rw [Nat.pow_succ]; omega
theorem height_loop (lv : Int) (d : Nat) : ∀ (h n k f : Nat), n + d = 25 → 1 ≤ n → (n : Int) ≤ lv → h < 2 ^ d → d < k → d < f →
    strataref01_Height.l0 k lv (h : Int) (n : Int) = some (mn lv ((n + Lib.ctzFrom f (h + 2 ^ d) : Nat) : Int)) := by
  induction d with
  | zero =>
    intro h n k f hn h1 hl hh hk hf
    obtain ⟨k, rfl⟩ : ∃ m, k = m + 1 := ⟨k - 1, by omega⟩
    obtain ⟨f, rfl⟩ : ∃ m, f = m + 1 := ⟨f - 1, by omega⟩
    obtain rfl : h = 0 := by simpa using hh
    simp only [strataref01_Height.l0]
    rw [ctz_odd (by decide), if_pos (by decide), if_neg (by omega)]
    congr 1
    unfold mn
    split <;> omega
  | succ d ih =>
    intro h n k f hn h1 hl hh hk hf
    obtain ⟨k, rfl⟩ : ∃ m, k = m + 1 := ⟨k - 1, by omega⟩
    obtain ⟨f, rfl⟩ : ∃ m, f = m + 1 := ⟨f - 1, by omega⟩
    obtain ⟨p1, p2⟩ := pow_half d
    simp only [strataref01_Height.l0]
    rw [tmod_nn (by omega), tdiv_nn (by omega)]
    have h64 : h < 2 ^ 64 := Nat.lt_of_lt_of_le hh (Nat.pow_le_pow_right (by decide) (by omega))
    by_cases he : h % 2 = 0
    · rw [if_pos (by omega), if_pos (by omega), ctz_step (by omega)]
      by_cases hlt : (n : Int) < lv
      · rw [if_pos hlt, wu64 (by omega) (by omega), w64 (by omega) (by omega), show (h : Int) / 2 = ((h / 2 : Nat) : Int) by omega, show (n : Int) + 1 = ((n + 1 : Nat) : Int) by omega]
        rw [ih (h / 2) (n + 1) k f (by omega) (by omega) (by omega) (by omega) (by omega) (by omega)]
        rw [show (h + 2 ^ (d + 1)) / 2 = h / 2 + 2 ^ d by omega, show n + 1 + Lib.ctzFrom f (h / 2 + 2 ^ d) = n + (1 + Lib.ctzFrom f (h / 2 + 2 ^ d)) by omega]
      · rw [if_neg hlt]
        congr 1
        unfold mn
        split <;> omega
    · rw [if_neg (by omega), ctz_odd (by omega)]
      congr 1
      unfold mn
      split <;> omega

theorem top_ref (h : Nat) : IntKind.u64.wrap (Int.tdiv (IntKind.u64.wrap ((h : Int) * 11400714819323198485)) 1099511627776) = ((top h : Nat) : Int) := by
  have ht := top_lt h
  have h0 : 0 ≤ IntKind.u64.wrap ((h : Int) * 11400714819323198485) := by rw [wu64_mod]; omega
  rw [tdiv_nn h0, top_int, wu64 (by omega) (by omega)]
theorem or_bits (h : Nat) : Go.bits .or .u32 ((IntKind.u64.wrap ((h : Int) * 11400714819323198485) / 1099511627776) % 4294967296) 16777216 = ((top h + 16777216 : Nat) : Int) := by
  rw [top_int, or_top _ (top_lt h)]
theorem tz_y (y : Nat) (h0 : 0 < y) (h1 : y < 2 ^ 32) : math_bits_TrailingZeros32.f (y : Int) = some ((Lib.ctzFrom 32 y : Nat) : Int) ∧ Lib.ctzFrom 32 y < 32 := by
  obtain ⟨m, _, h⟩ := Lib.ctzFrom_spec 32 y h0 h1
  refine ⟨?_, h⟩
  unfold math_bits_TrailingZeros32.f
  rw [if_pos (by omega), Int.toNat_natCast]
  unfold Lib.ctz
  rw [if_neg (by omega)]
/-- How many 0 bits stand below the lowest 1 bit of what tells the height. -/
def lowz (h : Nat) : Nat := Lib.ctzFrom 32 (top h + 16777216)
theorem tz_top (h : Nat) : math_bits_TrailingZeros32.f ((top h + 16777216 : Nat) : Int) = some ((lowz h : Nat) : Int) ∧ lowz h < 32 :=
  tz_y (top h + 16777216) (by omega) (by have := top_lt h; omega)
theorem pow24 : (2 : Nat) ^ 24 = 16777216 := by decide
theorem loop24 (lv : Int) (x : Nat) (g : ¬ lv < 1) (hx : x < 16777216) (k : Nat) (hk : 24 < k) : strataref01_Height.l0 k lv (x : Int) 1 = some (mn lv ((1 + Lib.ctzFrom 32 (x + 2 ^ 24) : Nat) : Int)) := by
  have e := height_loop lv 24 x 1 k 32 (by omega) (by omega) (by omega) (by rw [pow24]; exact hx) hk (by omega)
  exact e
theorem ref_top (h : Nat) (lv : Int) (g : ¬ lv < 1) (k : Nat) (hk : 24 < k) : strataref01_Height.l0 k lv ((top h : Nat) : Int) 1 = some (mn lv ((1 + lowz h : Nat) : Int)) := by
  have e := loop24 lv (top h) g (top_lt h) k hk
  rw [pow24] at e
  unfold lowz
  exact e
def heightOf (lv : Int) (z : Nat) : Int := if lv < 1 then 0 else mn lv ((1 + z : Nat) : Int)
theorem tz_of (h : Nat) : math_bits_TrailingZeros32.f (Go.bits .or .u32 ((IntKind.u64.wrap ((h : Int) * 11400714819323198485) / 1099511627776) % 4294967296) 16777216) = some ((lowz h : Nat) : Int) :=
  (congrArg math_bits_TrailingZeros32.f (or_bits h)).trans (tz_top h).1
theorem mn_low (lv : Int) (z : Nat) (hz : z < 32) : mn lv (wrap64 (1 + (z : Int))) = mn lv ((1 + z : Nat) : Int) := by
  rw [w64 (by omega) (by omega), show (1 : Int) + (z : Int) = ((1 + z : Nat) : Int) by omega]
theorem height_shape (f : Int → Option Int) (T lv : Int) (z : Nat) (hz : z < 32) (hf : f T = some (z : Int)) :
    (if lv < 1 then some 0 else (f T).bind fun t => some (mn lv (wrap64 (1 + t)))) = some (heightOf lv z) := by
  unfold heightOf
  by_cases g : lv < 1
  · rw [if_pos g, if_pos g]
  · rw [if_neg g, if_neg g, hf, Option.bind_some, mn_low lv z hz]
theorem bind_of {α β : Type} {o : Option α} {a : α} (f : α → Option β) (h : o = some a) : o.bind f = f a := by rw [h]; rfl
theorem bits_height (s : ByteArray) (lv : Int) (hs : s.size ≤ 140737488351232) : bits_Height.f s lv = some (heightOf lv (lowz (hashOf s.data.toList))) := by
  have e1 : bits_Hash.f s = some ((hashOf s.data.toList : Nat) : Int) := by unfold bits_Hash.f; rw [if_pos hs]
  have e2 := tz_of (hashOf s.data.toList)
  have e3 := height_shape math_bits_TrailingZeros32.f _ lv (lowz (hashOf s.data.toList)) (tz_top _).2 e2
  refine Eq.trans ?_ e3
  unfold bits_Height.f
  by_cases g : lv < 1
  · rw [if_pos g, if_pos g]
  · rw [if_neg g, if_neg g]
    exact bind_of _ e1
theorem ref_height (s : ByteArray) (lv : Int) (hs : s.size ≤ 140737488351232) (k : Nat) (hk : s.size + 30 ≤ k) : strataref01_Height.f k s lv = some (heightOf lv (lowz (hashOf s.data.toList))) := by
  unfold strataref01_Height.f heightOf
  rw [ref_hash s hs k (by omega)]
  simp only [Option.bind_some]
  by_cases g : lv < 1
  · rw [if_pos g, if_pos g]
  · rw [if_neg g, if_neg g]
    generalize hashOf s.data.toList = h
    rw [top_ref]
    exact ref_top h lv g k (by omega)

theorem BitsHashes : stratalaw01_BitsHashes.Pure := by
  intro s lv hs hl
  refine ⟨s.size + 30, ?_⟩
  unfold stratalaw01_BitsHashes.f
  have e1 : bits_Hash.f s = some ((hashOf s.data.toList : Nat) : Int) := by unfold bits_Hash.f; rw [if_pos hs]
  rw [e1, ref_hash s hs (s.size + 30) (by omega)]
  simp only [Option.bind_some, if_true]
  rw [bits_height s lv hs, ref_height s lv hs (s.size + 30) (Nat.le_refl _)]
  simp only [Option.bind_some, beq_self_eq_true]

end Go.Proofs.YtnanepgcaefhcaaDoor.Pure
