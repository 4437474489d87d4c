/- BitsSums returns true for all texts and numbers: the sums of parts, gone on with and joined are the document's, and the parts handed in, and what lies behind them, stay as they were. Conditions: the form's own reach; the table 'halves' as the program's text lays it (the card ties it). -/
import Derived.Test.YtnanepgcaefhcaaDoorPBitsSumsx2
import Derived.Test.YtnanepgcaefhcaaDoorHRComb
import Derived.Test.YtnanepgcaefhcaaDoorHSum
set_option linter.unusedVariables false
set_option linter.unusedSimpArgs false
namespace Go.Proofs.YtnanepgcaefhcaaDoor.PureS
open Go.RowKit Go.Proofs.YtnanepgcaefhcaaDoor.PBitsSums Go.Proofs.YtnanepgcaefhcaaDoor.HSum Go.Proofs.YtnanepgcaefhcaaDoor.HRComb Go.Proofs.YtnanepgcaefhcaaDoorW.PrintWords Go.Proofs.YtnanepgcaefhcaaDoorW.PrintLast Go.Proofs.YtnanepgcaefhcaaDoor.HCore Go.Proofs.YtnanepgcaefhcaaDoor.HCrc Go.Proofs.YtnanepgcaefhcaaDoor.HMat

/-- The sum of parts, from a sum on. -/
def sums (c : Nat) (l : List ByteArray) : Nat := l.foldl (fun c p => ext c p.data.toList) c
theorem check_loop (l : List ByteArray) (hl : ∀ p ∈ l, p.size ≤ 4611686018427387904) (hn : l.length ≤ 4611686018427387904) (d : Nat) : ∀ (i k c : Nat), i + d = l.length → d < k → c < 2 ^ 32 →
    bits_Checksum.l0 k (c : Int) l (l.length : Int) (i : Int) = some ((sums c (l.drop i) : Nat) : Int) := by
  induction d with
  | zero =>
    intro i k c hi hk hc
    obtain ⟨k, rfl⟩ : ∃ m, k = m + 1 := ⟨k - 1, by omega⟩
    simp only [bits_Checksum.l0]
    rw [if_neg (by omega), List.drop_of_length_le (by omega)]
    rfl
  | succ d ih =>
    intro i k c hi hk hc
    obtain ⟨k, rfl⟩ : ∃ m, k = m + 1 := ⟨k - 1, by omega⟩
    simp only [bits_Checksum.l0]
    have hlt : i < l.length := by omega
    rw [if_pos (by omega), if_pos (by omega), if_pos (by omega)]
    have hr : rdOf ByteArray.empty l (i : Int) = l[i] := by
      unfold rdOf
      rw [Int.toNat_natCast, List.getD_eq_getElem?_getD, List.getElem?_eq_getElem hlt]
      rfl
    have hf : bits_Extend.f (c : Int) l[i] = some ((ext c (l[i]).data.toList : Nat) : Int) := by
      unfold bits_Extend.f
      rw [if_pos ⟨by omega, by omega, hl _ (List.getElem_mem hlt)⟩, Int.toNat_natCast]
    rw [hr, hf]
    simp only [Option.bind_some]
    rw [w64 (by omega) (by omega), show (i : Int) + 1 = ((i + 1 : Nat) : Int) by omega, ih (i + 1) k _ (by omega) (by omega) (ext_lt c _ hc), List.drop_eq_getElem_cons hlt]
    rfl
theorem check_any (l : List ByteArray) (hl : ∀ p ∈ l, p.size ≤ 4611686018427387904) (hn : l.length ≤ 4611686018427387904) (k : Nat) (hk : l.length < k) : bits_Checksum.f k l = some ((sums 0 l : Nat) : Int) := by
  have := check_loop l hl hn l.length 0 k 0 (by omega) hk (by decide)
  rw [List.drop_zero] at this
  exact this


theorem down_f (r : Nat) (hr : r < 2 ^ 32) : strataref01_down.f (r : Int) = some ((dn r : Nat) : Int) := by
  unfold strataref01_down.f dn
  have e2 : Int.tdiv (r : Int) 2 % 4294967296 = ((r / 2 : Nat) : Int) := by rw [tdiv_nn (by omega)]; omega
  have e1 : Int.tmod (r : Int) 2 = ((r % 2 : Nat) : Int) := by rw [tmod_nn (by omega)]; omega
  rw [e1, e2]
  rcases Nat.mod_two_eq_zero_or_one r with h | h
  · rw [h, if_neg (by decide), if_neg (by decide)]
  · rw [h, if_pos (by decide), if_pos rfl]
    exact congrArg some (xor_u32 (r / 2) poly (by omega) (by decide))
theorem inner (s : ByteArray) (i : Int) (k : Nat) : ∀ (d r : Nat), d ≤ 8 → r < 2 ^ 32 → strataref01_Extend.l1 (k + d + 1) s (r : Int) i (8 - (d : Int)) = strataref01_Extend.l0 k s ((dns d r : Nat) : Int) (wrap64 (i + 1))
  | 0, r, _, _ => by
    simp only [strataref01_Extend.l1]
    rw [if_neg (by omega)]
    rfl
  | d + 1, r, hd, hr => by
    have ih := inner s i k d (dn r) (by omega) (dn_lt hr)
    rw [show k + (d + 1) + 1 = (k + d + 1) + 1 by omega]
    generalize k + d + 1 = K at ih ⊢
    simp only [strataref01_Extend.l1]
    have hw : wrap64 (8 - ((d + 1 : Nat) : Int) + 1) = 8 - (d : Int) := by rw [w64 (by omega) (by omega)]; omega
    rw [if_pos (by omega), down_f r hr]
    simp only [Option.bind_some]
    rw [hw, ih]
    rfl
theorem outer (s : ByteArray) (hs : s.size ≤ 4611686018427387904) (d : Nat) : ∀ (i k r : Nat), i + d = s.size → 10 * d < k → r < 2 ^ 32 →
    strataref01_Extend.l0 k s (r : Int) (i : Int) = some ((4294967295 ^^^ crc r (s.data.toList.drop i) : Nat) : Int) := by
  induction d with
  | zero =>
    intro i k r hi hk hr
    obtain ⟨k, rfl⟩ : ∃ m, k = m + 1 := ⟨k - 1, by omega⟩
    simp only [strataref01_Extend.l0]
    rw [if_neg (by omega), List.drop_of_length_le (by rw [size_list]; omega)]
    exact congrArg some (xor_u32 4294967295 r (by decide) hr)
  | succ d ih =>
    intro i k r hi hk hr
    obtain ⟨k, rfl⟩ : ∃ m, k = (m + 8 + 1) + 1 := ⟨k - 10, by omega⟩
    have hlt : i < s.data.toList.length := by rw [size_list]; omega
    have hb : bt s (i : Int) % 4294967296 = (((s.data.toList[i]).toNat : Nat) : Int) := by
      rw [bt_list, List.getD_eq_getElem?_getD, List.getElem?_eq_getElem hlt]
      simp only [Option.getD_some]
      have := (s.data.toList[i]).toNat_lt
      omega
    have hbl : (s.data.toList[i]).toNat < 2 ^ 32 := by have := (s.data.toList[i]).toNat_lt; omega
    have hw : wrap64 ((i : Int) + 1) = ((i + 1 : Nat) : Int) := by rw [w64 (by omega) (by omega)]; omega
    simp only [strataref01_Extend.l0]
    rw [if_pos (by omega), if_pos (by omega), hb, xor_u32 r _ hr hbl, show (0 : Int) = 8 - ((8 : Nat) : Int) from rfl]
    rw [inner s (i : Int) k 8 (r ^^^ (s.data.toList[i]).toNat) (by omega) (Nat.xor_lt_two_pow hr hbl), hw]
    have e8 : dns 8 (r ^^^ (s.data.toList[i]).toNat) = dn8 (r ^^^ (s.data.toList[i]).toNat) := rfl
    rw [e8, ih (i + 1) k _ (by omega) (by omega) (dn8_lt (Nat.xor_lt_two_pow hr hbl)), List.drop_eq_getElem_cons hlt]
    rfl
theorem ref_ext (s : ByteArray) (hs : s.size ≤ 4611686018427387904) (c k : Nat) (hc : c < 2 ^ 32) (hk : 10 * s.size < k) : strataref01_Extend.f k (c : Int) s = some ((ext c s.data.toList : Nat) : Int) := by
  unfold strataref01_Extend.f
  have e : Go.bits .xor .u32 IntKind.u32.max (c : Int) = ((4294967295 ^^^ c : Nat) : Int) := xor_u32 4294967295 c (by decide) hc
  rw [e]
  have := outer s hs s.size 0 k (4294967295 ^^^ c) (by omega) hk (Nat.xor_lt_two_pow (by decide) hc)
  rw [List.drop_zero] at this
  exact this
theorem rd_at (l : List ByteArray) (i : Nat) (h : i < l.length) : rdOf ByteArray.empty l (i : Int) = l[i] := by
  unfold rdOf
  rw [Int.toNat_natCast, List.getD_eq_getElem?_getD, List.getElem?_eq_getElem h]
  rfl
theorem ref_loop (l : List ByteArray) (M : Nat) (hM : M ≤ 4611686018427387904) (hl : ∀ p ∈ l, p.size ≤ M) (hn : l.length ≤ 4611686018427387904) (d : Nat) : ∀ (i k c : Nat), i + d = l.length → d + 10 * M + 1 < k → c < 2 ^ 32 →
    strataref01_Checksum.l0 k l (c : Int) (i : Int) = some ((sums c (l.drop i) : Nat) : Int) := by
  induction d with
  | zero =>
    intro i k c hi hk hc
    obtain ⟨k, rfl⟩ : ∃ m, k = m + 1 := ⟨k - 1, by omega⟩
    simp only [strataref01_Checksum.l0]
    rw [if_neg (by omega), List.drop_of_length_le (by omega)]
    rfl
  | succ d ih =>
    intro i k c hi hk hc
    obtain ⟨k, rfl⟩ : ∃ m, k = m + 1 := ⟨k - 1, by omega⟩
    have hlt : i < l.length := by omega
    have hp := hl _ (List.getElem_mem hlt)
    have hw : wrap64 ((i : Int) + 1) = ((i + 1 : Nat) : Int) := by rw [w64 (by omega) (by omega)]; omega
    simp only [strataref01_Checksum.l0]
    rw [if_pos (by omega), if_pos (by omega), rd_at l i hlt, ref_ext _ (by omega) c k hc (by omega)]
    simp only [Option.bind_some]
    rw [hw, ih (i + 1) k _ (by omega) (by omega) (ext_lt c _ hc), List.drop_eq_getElem_cons hlt]
    rfl
theorem ref_any (l : List ByteArray) (M : Nat) (hM : M ≤ 4611686018427387904) (hl : ∀ p ∈ l, p.size ≤ M) (hn : l.length ≤ 4611686018427387904) (k : Nat) (hk : l.length + 10 * M + 1 < k) : strataref01_Checksum.f k l = some ((sums 0 l : Nat) : Int) := by
  have := ref_loop l M hM hl hn l.length 0 k 0 (by omega) hk (by decide)
  rw [List.drop_zero] at this
  exact this

/-- The last question. -/
def tail (a b n : Int) : Option Bool := (bits_Combine.f a b n).bind fun bt124 => ((strataref01_Combine.f a b n).bind fun bt126 => (if bt124.1 = bt126.1 then ((stratalaw01_num.f bt124.2).bind fun t128 => (some (t128 == bt126.2))) else (some false)))
theorem tail_is (a b n : Int) (ha : 0 ≤ a ∧ a ≤ 4294967295) (hb : 0 ≤ b ∧ b ≤ 4294967295) : tail a b n = some true := by
  unfold tail bits_Combine.f strataref01_Combine.f cmb
  rw [if_pos ⟨ha.1, ha.2, hb.1, hb.2⟩]
  simp [stratalaw01_num.f]
def mark : ByteArray := ⟨#[109, 97, 114, 107]⟩
theorem same_loop (x : List ByteArray) (a b n : Int) (ha : 0 ≤ a ∧ a ≤ 4294967295) (hb : 0 ≤ b ∧ b ≤ 4294967295) (hx : x.length ≤ 4611686018427387904) (d : Nat) : ∀ (i k : Nat), i + d = x.length → d < k →
    stratalaw01_BitsSums.l1 k x a b n (x ++ [mark]) (i : Int) = some true := by
  have hlen : (x ++ [mark]).length = x.length + 1 := by rw [List.length_append]; rfl
  induction d with
  | zero =>
    intro i k hi hk
    obtain ⟨k, rfl⟩ : ∃ m, k = m + 1 := ⟨k - 1, by omega⟩
    simp only [stratalaw01_BitsSums.l1]
    have hr : (rdOf ByteArray.empty (x ++ [mark]) (x.length : Int)).toList = ([109, 97, 114, 107] : List UInt8) := by
      rw [rd_at _ _ (by omega), List.getElem_append_right (by omega), toList_data]
      simp [mark]
    rw [if_neg (by omega), if_pos (by omega), if_pos (by omega), if_pos hr]
    exact tail_is a b n ha hb
  | succ d ih =>
    intro i k hi hk
    obtain ⟨k, rfl⟩ : ∃ m, k = m + 1 := ⟨k - 1, by omega⟩
    have hw : wrap64 ((i : Int) + 1) = ((i + 1 : Nat) : Int) := by rw [w64 (by omega) (by omega)]; omega
    simp only [stratalaw01_BitsSums.l1]
    have hr : (rdOf ByteArray.empty (x ++ [mark]) (i : Int)).toList = (rdOf ByteArray.empty x (i : Int)).toList := by
      rw [rd_at _ i (by omega), rd_at x i (by omega), List.getElem_append_left (by omega)]
    rw [if_pos (by omega), if_pos (by omega), if_pos (by omega), if_pos hr, hw]
    exact ih (i + 1) k (by omega) (by omega)
theorem build (x : List ByteArray) (a b n : Int) (s : ByteArray) (hx : x.length < 8796093022208) (d : Nat) : ∀ (i k : Nat), i + d = x.length →
    stratalaw01_BitsSums.l0 (k + d + 1) x a b s n (x.take i) (i : Int) = stratalaw01_BitsSums.l0 (k + 1) x a b s n x (x.length : Int) := by
  induction d with
  | zero =>
    intro i k hi
    obtain rfl : i = x.length := by omega
    rw [List.take_length, Nat.add_zero]
  | succ d ih =>
    intro i k hi
    have hw : wrap64 ((i : Int) + 1) = ((i + 1 : Nat) : Int) := by rw [w64 (by omega) (by omega)]; omega
    rw [show k + (d + 1) + 1 = (k + d + 1) + 1 by omega]
    conv => lhs; unfold stratalaw01_BitsSums.l0
    rw [if_pos (by omega), if_pos (by omega), if_pos (by rw [List.length_take]; omega), hw, rd_at x i (by omega), ← List.take_succ_eq_append_getElem (by omega)]
    exact ih (i + 1) k (by omega)
theorem law (x : List ByteArray) (a b : Nat) (s : ByteArray) (n : Int) (hx : x.length * 16 ≤ 140737488351232) (hp : ∀ p ∈ x, p.size ≤ 140737488351232) (ha : a < 2 ^ 32) (hb : b < 2 ^ 32) (hs : s.size ≤ 140737488351232) : ∃ k, stratalaw01_BitsSums.f k x (a : Int) (b : Int) s n = some true := by
  have hk : ∃ K : Nat, x.length + 10 * 140737488351232 + 100 < K := ⟨_, Nat.lt_succ_self _⟩
  obtain ⟨K, hK⟩ := hk
  refine ⟨K + x.length + 1, ?_⟩
  unfold stratalaw01_BitsSums.f
  have e := build x (a : Int) (b : Int) n s (by omega) x.length 0 K (by omega)
  rw [List.take_zero] at e
  rw [show (0 : Int) = ((0 : Nat) : Int) from rfl, e]
  unfold stratalaw01_BitsSums.l0
  have c1 : bits_Checksum.f K x = some ((sums 0 x : Nat) : Int) := check_any x (fun p h => by have := hp p h; omega) (by omega) K (by omega)
  have c2 : strataref01_Checksum.f K x = some ((sums 0 x : Nat) : Int) := ref_any x 140737488351232 (by omega) hp (by omega) K (by omega)
  have c3 : bits_Extend.f (a : Int) s = some ((ext a s.data.toList : Nat) : Int) := by
    unfold bits_Extend.f
    rw [if_pos ⟨by omega, by omega, by omega⟩, Int.toNat_natCast]
  have c4 : strataref01_Extend.f K (a : Int) s = some ((ext a s.data.toList : Nat) : Int) := ref_ext s (by omega) a K ha (by omega)
  have hlen : (x ++ [mark]).length = x.length + 1 := by rw [List.length_append]; rfl
  have e1 : (x ++ [mark]).take ((x.length : Int)).toNat = x := by rw [Int.toNat_natCast, List.take_left]
  rw [if_neg (by omega), if_pos (by omega)]
  simp only [Option.bind_some]
  rw [show (x ++ [(⟨#[109, 97, 114, 107]⟩ : ByteArray)]) = x ++ [mark] from rfl, if_pos (by omega), if_pos (by omega), e1, c1, c2]
  simp only [Option.bind_some, if_true]
  rw [c3, c4]
  simp only [Option.bind_some, bne_self_eq_false]
  obtain ⟨m, rfl⟩ : ∃ m, K = m + 1 := ⟨K - 1, by omega⟩
  simp only [stratalaw01_BitsSums.j1]
  rw [if_neg (by decide)]
  exact same_loop x (a : Int) (b : Int) n ⟨by omega, by omega⟩ ⟨by omega, by omega⟩ (by omega) x.length 0 m (by omega) (by omega)
theorem walk (A0 : Option Addr) (c0 : Nat) (x0 : List ByteArray) (a1 a2 : Int) (a3 : ByteArray) (a4 : Int) (w : World) (hC0 : Kd.C Kd.string w A0 x0.length x0) (hl0 : x0.length ≤ c0) (q0 : x0.length * 16 ≤ 140737488351232) (q : ∀ p ∈ x0, p.size ≤ 140737488351232)
    (w1 : (Lit.int .u32 a1).wf = true) (w2 : (Lit.int .u32 a2).wf = true) (w3 : a3.size ≤ 140737488351232) (hT : Tab w) :
    Calls Tryd.prog 5 #[.slice A0 x0.length c0, .int .u32 a1, .int .u32 a2, .string a3, .int .i64 a4] w fun e w' => e = .returned (.bool true) ∧ Below w.heap.size w w' := by
  obtain ⟨h1, h2⟩ := rng_u32 w1
  obtain ⟨h3, h4⟩ := rng_u32 w2
  obtain ⟨b1, rfl⟩ := Int.eq_ofNat_of_zero_le h1
  obtain ⟨b2, rfl⟩ := Int.eq_ofNat_of_zero_le h3
  obtain ⟨k, hk⟩ := law x0 b1 b2 a3 a4 q0 q (by omega) (by omega) w3
  exact stratalaw01_BitsSums.calls k A0 c0 x0 _ _ a3 a4 true w hC0 hl0 hk hT
end Go.Proofs.YtnanepgcaefhcaaDoor.PureS
