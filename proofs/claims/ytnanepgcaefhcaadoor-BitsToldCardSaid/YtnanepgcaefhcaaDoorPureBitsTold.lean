/- BitsTold returns true for all texts: a change that lies within four bytes beside one another changes the sum. Conditions: the form's own reach; the table 'halves' as the program's text lays it (the card ties it). -/
import Derived.Test.YtnanepgcaefhcaaDoorPBitsToldx1
import Derived.Test.YtnanepgcaefhcaaDoorHSum
set_option linter.unusedVariables false
set_option linter.unusedSimpArgs false
namespace Go.Proofs.YtnanepgcaefhcaaDoor.Pure
open Go.RowKit Go.Proofs.YtnanepgcaefhcaaDoor.PBitsTold Go.Proofs.YtnanepgcaefhcaaDoor.HSum Go.Proofs.YtnanepgcaefhcaaDoorW.PrintWords Go.Proofs.YtnanepgcaefhcaaDoorW.PrintLast Go.Proofs.YtnanepgcaefhcaaDoor.HCore Go.Proofs.YtnanepgcaefhcaaDoor.HCrc

/-- The sum of parts, from a sum on. -/
def sums (c : Nat) (l : List ByteArray) : Nat := l.foldl (fun c p => ext c p.data.toList) c
theorem check_loop (l : List ByteArray) (hl : ∀ p ∈ l, p.size ≤ 4611686018427387904) (hn : l.length ≤ 4611686018427387904) (d : Nat) : ∀ (i k c : Nat), i + d = l.length → d < k → c < 2 ^ 32 →
    bits_Checksum.l0 k (c : Int) l (l.length : Int) (i : Int) = some ((sums c (l.drop i) : Nat) : Int) := by
  induction d with
  | zero =>
    intro i k c hi hk hc
    obtain ⟨k, rfl⟩ : ∃ m, k = m + 1 := ⟨k - 1, by omega⟩
    simp only [bits_Checksum.l0]
    rw [if_neg (by omega), List.drop_of_length_le (by omega)]
    rfl
  | succ d ih =>
    intro i k c hi hk hc
    obtain ⟨k, rfl⟩ : ∃ m, k = m + 1 := ⟨k - 1, by omega⟩
    simp only [bits_Checksum.l0]
    have hlt : i < l.length := by omega
    rw [if_pos (by omega), if_pos (by omega), if_pos (by omega)]
    have hr : rdOf ByteArray.empty l (i : Int) = l[i] := by
      unfold rdOf
      rw [Int.toNat_natCast, List.getD_eq_getElem?_getD, List.getElem?_eq_getElem hlt]
      rfl
    have hf : bits_Extend.f (c : Int) l[i] = some ((ext c (l[i]).data.toList : Nat) : Int) := by
      unfold bits_Extend.f
      rw [if_pos ⟨by omega, by omega, hl _ (List.getElem_mem hlt)⟩, Int.toNat_natCast]
    rw [hr, hf]
    simp only [Option.bind_some]
    rw [w64 (by omega) (by omega), show (i : Int) + 1 = ((i + 1 : Nat) : Int) by omega, ih (i + 1) k _ (by omega) (by omega) (ext_lt c _ hc), List.drop_eq_getElem_cons hlt]
    rfl
theorem check_any (l : List ByteArray) (hl : ∀ p ∈ l, p.size ≤ 4611686018427387904) (hn : l.length ≤ 4611686018427387904) (k : Nat) (hk : l.length < k) : bits_Checksum.f k l = some ((sums 0 l : Nat) : Int) := by
  have := check_loop l hl hn l.length 0 k 0 (by omega) hk (by decide)
  rw [List.drop_zero] at this
  exact this

theorem digits : sums 0 ([⟨#[49, 50, 51, 52, 53, 54, 55, 56, 57]⟩] : List ByteArray) = 3808858755 := by
  kernel_rfl

theorem BitsTold : stratalaw01_BitsTold.Pure := by
  intro s at_ c0 c1 c2 c3 hs hat h0 h1 h2 h3
  have hat := rng_i64 hat
  refine ⟨4, ?_⟩
  unfold stratalaw01_BitsTold.f
  have hk : bits_Checksum.f 4 ([⟨#[49, 50, 51, 52, 53, 54, 55, 56, 57]⟩] : List ByteArray) = some 3808858755 := by
    rw [check_any _ (by intro p hp; rw [List.mem_singleton.1 hp]; decide) (by decide) 4 (by decide)]
    have e : sums 0 ([⟨#[49, 50, 51, 52, 53, 54, 55, 56, 57]⟩] : List ByteArray) = 3808858755 := digits
    exact congrArg some (by omega)
  rw [hk]
  simp only [Option.bind_some, if_true]
  have hj : stratalaw01_BitsTold.j0 4 s at_ c0 c1 c2 c3 true = some true := by
    simp only [stratalaw01_BitsTold.j0]
    rfl
  by_cases g1 : at_ < 0
  · rw [if_pos g1]; exact hj
  rw [if_neg g1]
  by_cases g2 : wrap64 (at_ + 4) > (s.size : Int)
  · rw [if_pos g2]; exact hj
  rw [if_neg g2]
  by_cases g3 : wrap64 (at_ + 4) < at_
  · rw [decide_eq_true g3]; exact hj
  rw [decide_eq_false g3]
  have hle : at_ + 4 ≤ (s.size : Int) := by
    unfold wrap64 at g2 g3
    omega
  obtain ⟨n, rfl⟩ := Int.eq_ofNat_of_zero_le (show 0 ≤ at_ by omega)
  have hn : n + 4 ≤ s.size := by omega
  clear g1 g2 g3 hj
  simp only [stratalaw01_BitsTold.j0]
  rw [if_neg (by decide), w64 (n := (n : Int) + 1) (by omega) (by omega), w64 (n := (n : Int) + 2) (by omega) (by omega), w64 (n := (n : Int) + 3) (by omega) (by omega), w64 (n := (n : Int) + 4) (by omega) (by omega)]
  rw [if_pos (by omega), if_pos (by omega), if_pos (by omega), if_pos (by omega), if_pos (by omega), if_pos (by omega), if_pos (by omega), if_pos (by omega), if_pos (by omega)]
  simp only [Option.bind_some]
  generalize hys : ([Go.bits .xor .u8 (bt s (n : Int)) c0, Go.bits .xor .u8 (bt s ((n : Int) + 1)) c1, Go.bits .xor .u8 (bt s ((n : Int) + 2)) c2, Go.bits .xor .u8 (bt s ((n : Int) + 3)) c3] : List Int) = ys
  have hyl : ys.length = 4 := by rw [← hys]; rfl
  have e4 : ((n : Int) + 4).toNat = n + 4 := by omega
  rw [Int.toNat_natCast, e4]
  have hL : s.data.toList.length = s.size := size_list s
  have x1 : (s.extract 0 n).data.toList = s.data.toList.take n := by rw [extract_list]; simp
  have x2 : (s.extract (n + 4) s.size).data.toList = s.data.toList.drop (n + 4) := by rw [extract_list, List.take_of_length_le (by rw [List.length_drop]; omega)]
  have z1 : (s.extract 0 n).size = n := by rw [← size_list, x1, List.length_take]; omega
  have z2 : (s.extract (n + 4) s.size).size = s.size - (n + 4) := by rw [← size_list, x2, List.length_drop]; omega
  have z3 : (strOfNums ys).size = 4 := by rw [strOfNums_len, hyl]
  have z4 : (s.extract 0 n ++ strOfNums ys).size = n + 4 := by rw [← size_list, append_list, List.length_append, size_list, size_list, z1, z3]
  have z5 : ((s.extract 0 n ++ strOfNums ys) ++ s.extract (n + 4) s.size).size = s.size := by rw [← size_list, append_list, List.length_append, size_list, size_list, z4, z2]; omega
  rw [if_pos (by omega), if_pos (by omega), if_pos (by omega), if_pos (by omega)]
  rw [check_any [s] (by intro p hp; rw [List.mem_singleton.1 hp]; omega) (by simp) 3 (by simp), check_any [(s.extract 0 n ++ strOfNums ys) ++ s.extract (n + 4) s.size] (by intro p hp; rw [List.mem_singleton.1 hp]; omega) (by simp) 3 (by simp)]
  simp only [Option.bind_some]
  congr 1
  have hsp : s.data.toList = s.data.toList.take n ++ [s.data.toList.getD n 0, s.data.toList.getD (n + 1) 0, s.data.toList.getD (n + 2) 0, s.data.toList.getD (n + 3) 0] ++ s.data.toList.drop (n + 4) := by
    have d : ∀ i, i < s.data.toList.length → s.data.toList.drop i = s.data.toList.getD i 0 :: s.data.toList.drop (i + 1) := fun i hi => by
      rw [List.drop_eq_getElem_cons hi, List.getD_eq_getElem?_getD, List.getElem?_eq_getElem hi]; rfl
    have h := (List.take_append_drop n s.data.toList).symm
    rw [d n (by omega), d (n + 1) (by omega), d (n + 2) (by omega), d (n + 3) (by omega)] at h
    simpa using h
  have htp : ((s.extract 0 n ++ strOfNums ys) ++ s.extract (n + 4) s.size).data.toList = s.data.toList.take n ++ ys.map (fun n => UInt8.ofNat n.toNat) ++ s.data.toList.drop (n + 4) := by
    rw [append_list, append_list, x1, x2, strOfNums_list]
  obtain ⟨y0, y1, y2, y3, rfl⟩ : ∃ y0 y1 y2 y3, ys = [y0, y1, y2, y3] := ⟨_, _, _, _, hys.symm⟩
  simp only [List.map_cons, List.map_nil] at htp
  generalize (s.extract 0 n ++ strOfNums [y0, y1, y2, y3]) ++ s.extract (n + 4) s.size = t at htp
  rw [Bool.eq_iff_iff]
  simp only [beq_iff_eq, iff_true]
  rw [Bool.eq_iff_iff]
  simp only [beq_iff_eq]
  constructor
  · intro h
    have h' : sums 0 [s] = sums 0 [t] := by omega
    have h'' : ext 0 s.data.toList = ext 0 t.data.toList := h'
    rw [htp] at h''
    conv at h'' => lhs; rw [hsp]
    obtain ⟨r0, r1, r2, r3⟩ := ext_told 0 (by decide) _ _ _ _ _ _ _ _ _ _ h''
    rw [toList_data, toList_data, htp, ← r0, ← r1, ← r2, ← r3]
    exact hsp
  · intro h
    rw [toList_data, toList_data] at h
    have : sums 0 [s] = sums 0 [t] := by
      show ext 0 s.data.toList = ext 0 t.data.toList
      rw [h]
    rw [this]

end Go.Proofs.YtnanepgcaefhcaaDoor.Pure
