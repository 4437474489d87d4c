/- BitsJoined returns true for all texts: the sum of texts joined is the same by parts, by going on, and by joining the sums; of the nine digits it is the known one. Conditions: the form's own reach; the table 'halves' as the program's text lays it (the card ties it). -/
import Derived.Test.YtnanepgcaefhcaaDoorPBitsJoinedx1
import Derived.Test.YtnanepgcaefhcaaDoorHRComb
import Derived.Test.YtnanepgcaefhcaaDoorHSum
set_option linter.unusedVariables false
set_option linter.unusedSimpArgs false
namespace Go.Proofs.YtnanepgcaefhcaaDoor.PureJ
open Go.RowKit Go.Proofs.YtnanepgcaefhcaaDoor.PBitsJoined Go.Proofs.YtnanepgcaefhcaaDoor.HSum Go.Proofs.YtnanepgcaefhcaaDoor.HRComb Go.Proofs.YtnanepgcaefhcaaDoorW.PrintWords Go.Proofs.YtnanepgcaefhcaaDoorW.PrintLast Go.Proofs.YtnanepgcaefhcaaDoor.HCore Go.Proofs.YtnanepgcaefhcaaDoor.HCrc Go.Proofs.YtnanepgcaefhcaaDoor.HMat

/-- The sum of parts, from a sum on. -/
def sums (c : Nat) (l : List ByteArray) : Nat := l.foldl (fun c p => ext c p.data.toList) c
theorem check_loop (l : List ByteArray) (hl : ∀ p ∈ l, p.size ≤ 4611686018427387904) (hn : l.length ≤ 4611686018427387904) (d : Nat) : ∀ (i k c : Nat), i + d = l.length → d < k → c < 2 ^ 32 →
    bits_Checksum.l0 k (c : Int) l (l.length : Int) (i : Int) = some ((sums c (l.drop i) : Nat) : Int) := by
  induction d with
  | zero =>
    intro i k c hi hk hc
    obtain ⟨k, rfl⟩ : ∃ m, k = m + 1 := ⟨k - 1, by omega⟩
    simp only [bits_Checksum.l0]
    rw [if_neg (by omega), List.drop_of_length_le (by omega)]
    rfl
  | succ d ih =>
    intro i k c hi hk hc
    obtain ⟨k, rfl⟩ : ∃ m, k = m + 1 := ⟨k - 1, by omega⟩
    simp only [bits_Checksum.l0]
    have hlt : i < l.length := by omega
    rw [if_pos (by omega), if_pos (by omega), if_pos (by omega)]
    have hr : rdOf ByteArray.empty l (i : Int) = l[i] := by
      unfold rdOf
      rw [Int.toNat_natCast, List.getD_eq_getElem?_getD, List.getElem?_eq_getElem hlt]
      rfl
    have hf : bits_Extend.f (c : Int) l[i] = some ((ext c (l[i]).data.toList : Nat) : Int) := by
      unfold bits_Extend.f
      rw [if_pos ⟨by omega, by omega, hl _ (List.getElem_mem hlt)⟩, Int.toNat_natCast]
    rw [hr, hf]
    simp only [Option.bind_some]
    rw [w64 (by omega) (by omega), show (i : Int) + 1 = ((i + 1 : Nat) : Int) by omega, ih (i + 1) k _ (by omega) (by omega) (ext_lt c _ hc), List.drop_eq_getElem_cons hlt]
    rfl
theorem check_any (l : List ByteArray) (hl : ∀ p ∈ l, p.size ≤ 4611686018427387904) (hn : l.length ≤ 4611686018427387904) (k : Nat) (hk : l.length < k) : bits_Checksum.f k l = some ((sums 0 l : Nat) : Int) := by
  have := check_loop l hl hn l.length 0 k 0 (by omega) hk (by decide)
  rw [List.drop_zero] at this
  exact this

theorem digits : sums 0 ([⟨#[49, 50, 51, 52, 53, 54, 55, 56, 57]⟩] : List ByteArray) = 3808858755 := by
  kernel_rfl

theorem ext_f (c : Nat) (s : ByteArray) (hc : c < 2 ^ 32) (hs : s.size ≤ 4611686018427387904) : bits_Extend.f (c : Int) s = some ((ext c s.data.toList : Nat) : Int) := by
  unfold bits_Extend.f
  rw [if_pos ⟨by omega, by omega, hs⟩, Int.toNat_natCast]
theorem cmb_f (a b n : Nat) (ha : a < 2 ^ 32) (hb : b < 2 ^ 32) (hn : n ≤ 1048576) : bits_Combine.f (a : Int) (b : Int) (n : Int) = some (((zer n a ^^^ b : Nat) : Int), 0) := by
  unfold bits_Combine.f cmb
  rw [if_pos ⟨by omega, by omega, by omega, by omega⟩, if_neg (by omega)]
  rfl
theorem sums_cons (c : Nat) (p : ByteArray) (l : List ByteArray) : sums c (p :: l) = sums (ext c p.data.toList) l := rfl
theorem sums_nil (c : Nat) : sums c [] = c := rfl
theorem sums_one (x : ByteArray) : sums 0 [x] = ext 0 x.data.toList := by rw [sums_cons, sums_nil]
theorem sums_three (x y z : ByteArray) : sums 0 [x, y, z] = ext (ext (ext 0 x.data.toList) y.data.toList) z.data.toList := by rw [sums_cons, sums_cons, sums_cons, sums_nil]

/-- What the sums come to, each under a name of its own. -/
theorem named (x y z : ByteArray) (hx : x.size ≤ 140737488351232) (hy : y.size ≤ 140737488351232) (hz : z.size ≤ 140737488351232) :
    ∃ sx sy sz sxy W c : Nat, sx < 2 ^ 32 ∧ sy < 2 ^ 32 ∧ sz < 2 ^ 32 ∧ c < 2 ^ 32 ∧ (∀ k, 3 < k → bits_Checksum.f k [x] = some (sx : Int)) ∧ (∀ k, 3 < k → bits_Checksum.f k [y] = some (sy : Int)) ∧ (∀ k, 3 < k → bits_Checksum.f k [z] = some (sz : Int)) ∧
      (∀ k, 3 < k → bits_Checksum.f k [(x ++ y) ++ z] = some (W : Int)) ∧ (∀ k, 3 < k → bits_Checksum.f k [x, y, z] = some (W : Int)) ∧ bits_Extend.f (sx : Int) y = some (sxy : Int) ∧ bits_Extend.f (sxy : Int) z = some (W : Int) ∧
      zer z.size sy ^^^ sz = c ∧ zer (y.size + z.size) sx ^^^ c = W := by
  have hxs : ∀ p ∈ [x], p.size ≤ 4611686018427387904 := by intro p hp; rw [List.mem_singleton.1 hp]; omega
  have hys : ∀ p ∈ [y], p.size ≤ 4611686018427387904 := by intro p hp; rw [List.mem_singleton.1 hp]; omega
  have hzs : ∀ p ∈ [z], p.size ≤ 4611686018427387904 := by intro p hp; rw [List.mem_singleton.1 hp]; omega
  have h3 : ∀ p ∈ [x, y, z], p.size ≤ 4611686018427387904 := by
    intro p hp
    simp only [List.mem_cons, List.not_mem_nil, or_false] at hp
    rcases hp with rfl | rfl | rfl <;> omega
  have ez : ((x ++ y) ++ z).size = x.size + y.size + z.size := by rw [app_size, app_size]
  have hj : ∀ p ∈ [(x ++ y) ++ z], p.size ≤ 4611686018427387904 := by intro p hp; rw [List.mem_singleton.1 hp, ez]; omega
  have hW : sums 0 [(x ++ y) ++ z] = ext (ext (ext 0 x.data.toList) y.data.toList) z.data.toList := by rw [sums_one, append_list, append_list, ext_append, ext_append]
  refine ⟨_, _, _, _, _, ext 0 (y.data.toList ++ z.data.toList), ?_, ?_, ?_, ext_lt 0 _ (by decide), fun k hk => check_any [x] hxs (by simp) k (by simp; omega), fun k hk => check_any [y] hys (by simp) k (by simp; omega), fun k hk => check_any [z] hzs (by simp) k (by simp; omega), fun k hk => check_any [(x ++ y) ++ z] hj (by simp) k (by simp; omega), fun k hk => ?_, ext_f _ y ?_ (by omega), ?_, ?_, ?_⟩
  · rw [sums_one]; exact ext_lt 0 _ (by decide)
  · rw [sums_one]; exact ext_lt 0 _ (by decide)
  · rw [sums_one]; exact ext_lt 0 _ (by decide)
  · rw [check_any [x, y, z] h3 (by simp) k (by simp; omega), sums_three, hW]
  · rw [sums_one]; exact ext_lt 0 _ (by decide)
  · rw [ext_f _ z (ext_lt _ _ (by rw [sums_one]; exact ext_lt 0 _ (by decide))) (by omega), sums_one, hW]
  · rw [ext_append, sums_one, sums_one, ext_join (ext 0 y.data.toList) z.data.toList, size_list]
  · rw [hW, ← ext_append, sums_one, ext_join (ext 0 x.data.toList) (y.data.toList ++ z.data.toList), List.length_append, size_list, size_list]

theorem eq_proj {a b : Int} : ((a, b) : Int × Int).1 = a := rfl
theorem last (x y z : ByteArray) (k sx sy sz W c : Nat) (hy : y.size ≤ 140737488351232) (hz : z.size ≤ 140737488351232) (cx : bits_Checksum.f k [x] = some (sx : Int)) (cy : bits_Checksum.f k [y] = some (sy : Int)) (cz : bits_Checksum.f k [z] = some (sz : Int))
    (q1 : z.size ≤ 1048576 → bits_Combine.f (sy : Int) (sz : Int) (z.size : Int) = some ((c : Int), 0)) (q2 : y.size + z.size ≤ 1048576 → bits_Combine.f (sx : Int) (c : Int) ((y.size + z.size : Nat) : Int) = some ((W : Int), 0)) :
    stratalaw01_BitsJoined.j1 (k + 1) x y z (W : Int) false = some true := by
  have hw : wrap64 ((y.size : Int) + (z.size : Int)) = ((y.size + z.size : Nat) : Int) := by rw [w64 (by omega) (by omega)]; omega
  simp only [stratalaw01_BitsJoined.j1]
  rw [if_neg (by decide), hw]
  by_cases hg : ((y.size + z.size : Nat) : Int) > 1048576
  · rw [if_pos hg]
  have g1 := q1 (by omega)
  have g2 := q2 (by omega)
  clear q1 q2
  rw [if_neg hg, cy, cz, cx]
  simp only [Option.bind_some]
  rw [g1]
  simp only [Option.bind_some]
  rw [g2]
  simp [stratalaw01_num.f]
theorem BitsJoined : stratalaw01_BitsJoined.Pure := by
  intro x y z hx hy hz
  refine ⟨10, ?_⟩
  have hd : bits_Checksum.f 10 ([⟨#[49, 50, 51, 52, 53, 54, 55, 56, 57]⟩] : List ByteArray) = some 3808858755 := by
    rw [check_any _ (by intro p hp; rw [List.mem_singleton.1 hp]; decide) (by decide) 10 (by decide)]
    have e : sums 0 ([⟨#[49, 50, 51, 52, 53, 54, 55, 56, 57]⟩] : List ByteArray) = 3808858755 := digits
    exact congrArg some (by omega)
  have h0 : bits_Checksum.f 10 [] = some 0 := check_any [] (by intro p hp; cases hp) (by decide) 10 (by decide)
  obtain ⟨sx, sy, sz, sxy, W, c, lx, ly, lz, lc, cx, cy, cz, cj, c3, e1, e2, j1, j2⟩ := named x y z hx hy hz
  have hl := last x y z 8 sx sy sz W c hy hz (cx 8 (by decide)) (cy 8 (by decide)) (cz 8 (by decide)) (fun h => by rw [cmb_f sy sz z.size ly lz h, j1]) (fun h => by rw [cmb_f sx c (y.size + z.size) lx lc h, j2])
  clear j1 j2
  unfold stratalaw01_BitsJoined.f
  rw [hd]
  simp only [Option.bind_some, if_true]
  rw [h0]
  simp only [Option.bind_some]
  rw [show ((0 : Int) != 0) = false from rfl]
  simp only [stratalaw01_BitsJoined.j0]
  rw [if_neg (by decide), if_pos (by omega), if_pos (by rw [app_size]; omega), cj 9 (by decide), c3 9 (by decide)]
  simp only [Option.bind_some, if_true]
  rw [cx 9 (by decide)]
  simp only [Option.bind_some]
  rw [e1]
  simp only [Option.bind_some]
  rw [e2]
  simp only [Option.bind_some]
  rw [bne_self_eq_false]
  exact hl
end Go.Proofs.YtnanepgcaefhcaaDoor.PureJ
