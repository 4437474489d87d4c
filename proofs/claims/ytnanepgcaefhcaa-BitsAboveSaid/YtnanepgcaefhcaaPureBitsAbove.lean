/- BitsAbove returns true for all texts: After's text is above all that begin with the prefix, nothing else lies between, and there is none just if the prefix has no byte but 255. Condition: the form's own reach (each text at most 2^47 - 4096 bytes). -/
import Derived.Test.YtnanepgcaefhcaaPBitsAbovex1
import Derived.Test.YtnanepgcaefhcaaHCore
set_option linter.unusedVariables false
set_option linter.unusedSimpArgs false
namespace Go.Proofs.Ytnanepgcaefhcaa.Pure
open Go.RowKit Go.Proofs.Ytnanepgcaefhcaa.PBitsAbove Go.Proofs.YtnanepgcaefhcaaW.PrintWords Go.Proofs.YtnanepgcaefhcaaW.PrintLast Go.Proofs.Ytnanepgcaefhcaa.HCore

theorem byte_succ (c : UInt8) : UInt8.ofNat ((((c.toNat : Int) + 1) % 256).toNat) = c + 1 := by
  apply UInt8.toNat_inj.1
  have h : (((c.toNat : Int) + 1) % 256).toNat = (c.toNat + 1) % 256 := by omega
  rw [h]
  simp

theorem after_tells (n : Nat) : ∀ (k : Nat) (x : ByteArray), x.size = n → n ≤ 140737488351232 → n < k →
    (∃ u c v, x.data.toList = u ++ c :: v ∧ c ≠ 255 ∧ (∀ b ∈ v, b = 255) ∧ bits_After.l0 k x = some (⟨(u ++ [c + 1]).toArray⟩, true)) ∨
    ((∀ b ∈ x.data.toList, b = 255) ∧ bits_After.l0 k x = some (⟨#[]⟩, false)) := by
  induction n with
  | zero =>
    intro k x hx hn hk
    obtain ⟨k, rfl⟩ : ∃ m, k = m + 1 := ⟨k - 1, by omega⟩
    have hl : x.data.toList = [] := List.eq_nil_of_length_eq_zero (by rw [size_list]; exact hx)
    right
    refine ⟨(by rw [hl]; intro b hb; cases hb), ?_⟩
    simp only [bits_After.l0]
    rw [if_pos (by rw [toList_data, hl])]
  | succ n ih =>
    intro k x hx hn hk
    obtain ⟨k, rfl⟩ : ∃ m, k = m + 1 := ⟨k - 1, by omega⟩
    have hlen : x.data.toList.length = n + 1 := by rw [size_list]; exact hx
    have hw : wrap64 ((x.size : Int) - 1) = (n : Int) := by rw [w64 (by omega) (by omega)]; omega
    have hne : ¬ x.toList = ([] : List UInt8) := by rw [toList_data]; intro h; rw [h] at hlen; simp at hlen
    have hb : bt x (n : Int) = (((x.data.toList).getD n 0).toNat : Int) := bt_list x n
    have htk : x.data.toList = x.data.toList.take n ++ [x.data.toList.getD n 0] := by
      have h1 : n < x.data.toList.length := by omega
      rw [List.getD_eq_getElem?_getD, List.getElem?_eq_getElem h1]
      simp only [Option.getD_some]
      rw [← List.take_succ_eq_append_getElem h1, List.take_of_length_le (by omega)]
    have hex : (x.extract 0 n).data.toList = x.data.toList.take n := by rw [extract_list]; simp
    have hexs : (x.extract 0 n).size = n := by rw [← size_list, hex, List.length_take]; omega
    generalize hc : x.data.toList.getD n 0 = c at htk hb
    generalize hu : x.data.toList.take n = u at htk hex
    have step : bits_After.l0 (k + 1) x = if (c.toNat : Int) = 255 then bits_After.l0 k (x.extract 0 n) else some ((x.extract 0 n) ++ strOfNums [((c.toNat : Int) + 1) % 256], true) := by
      simp only [bits_After.l0]
      rw [if_neg hne, hw, if_pos (by omega), if_pos (by omega), if_pos (by omega), hb]
      simp only [Int.toNat_natCast, Option.bind_some]
      rw [if_pos (show (x.extract 0 n).size + (strOfNums [((c.toNat : Int) + 1) % 256]).size ≤ 9223372036854775807 by rw [strOfNums_len, hexs]; simp; omega)]
    by_cases h255 : (c.toNat : Int) = 255
    · have hc255 : c = 255 := by apply UInt8.toNat_inj.1; have : c.toNat = 255 := by omega
                                 rw [this]; rfl
      rw [if_pos h255] at step
      rcases ih k (x.extract 0 n) hexs (by omega) (by omega) with ⟨u', c', v', h1, h2, h3, h4⟩ | ⟨h1, h2⟩
      · left
        refine ⟨u', c', v' ++ [255], ?_, h2, ?_, by rw [step]; exact h4⟩
        · rw [htk, ← hex, h1, hc255]; simp
        · intro b hb'
          rcases List.mem_append.1 hb' with h | h
          · exact h3 b h
          · simpa using h
      · right
        refine ⟨?_, by rw [step]; exact h2⟩
        intro b hb'
        rw [htk] at hb'
        rcases List.mem_append.1 hb' with h | h
        · exact h1 b (by rw [hex]; exact h)
        · have : b = c := by simpa using h
          rw [this]; exact hc255
    · left
      rw [if_neg h255] at step
      refine ⟨u, c, [], htk, ?_, (by intro b hb'; cases hb'), ?_⟩
      · rintro rfl; exact h255 rfl
      · rw [step]
        congr 2
        apply ba_ext
        rw [append_list, hex, strOfNums_list]
        simp [byte_succ]

theorem bl_255 : ∀ (v o : List UInt8), (∀ b ∈ v, b = 255) → ¬ v <+: o → Op.bytesLess o v = true
  | [], o, _, h => absurd (List.nil_prefix) h
  | a :: v, [], _, _ => rfl
  | a :: v, b :: o, hv, h => by
    have ha : a = 255 := hv a (by simp)
    subst ha
    by_cases hb : b = 255
    · subst hb
      have : ¬ v <+: o := fun hp => h (by simpa using hp)
      have r := bl_255 v o (fun b hb => hv b (by simp [hb])) this
      simp [Op.bytesLess, r]
    · have hlt : b < 255 := by
        rw [UInt8.lt_iff_toNat_lt]
        have h1 := b.toNat_lt
        have h2 : b.toNat ≠ 255 := fun e => hb (UInt8.toNat_inj.1 (by rw [e]; rfl))
        show b.toNat < 255
        omega
      simp [Op.bytesLess, hlt]

theorem succ_nat {c : UInt8} (hc : c ≠ 255) : (c + 1).toNat = c.toNat + 1 := by
  have h1 := c.toNat_lt
  have h2 : c.toNat ≠ 255 := fun e => hc (UInt8.toNat_inj.1 (by rw [e]; rfl))
  rw [UInt8.toNat_add]
  show (c.toNat + 1) % 256 = _
  omega

theorem above_less (u v more : List UInt8) (c : UInt8) (hc : c ≠ 255) : Op.bytesLess ((u ++ c :: v) ++ more) (u ++ [c + 1]) = true := by
  rw [List.append_assoc, bl_app]
  have hlt : c < c + 1 := by rw [UInt8.lt_iff_toNat_lt, succ_nat hc]; omega
  simp [Op.bytesLess, hlt]

theorem between (u v : List UInt8) (c : UInt8) (hc : c ≠ 255) (hv : ∀ b ∈ v, b = 255) : ∀ (o : List UInt8), ¬ (u ++ c :: v) <+: o →
    Op.bytesLess o (u ++ c :: v) = true ∨ Op.bytesLess o (u ++ [c + 1]) = false := by
  induction u with
  | nil =>
    intro o ho
    cases o with
    | nil => left; rfl
    | cons d o =>
      rcases Nat.lt_trichotomy d.toNat c.toNat with h | h | h
      · left
        have : d < c := by rw [UInt8.lt_iff_toNat_lt]; exact h
        simp [Op.bytesLess, this]
      · have : d = c := UInt8.toNat_inj.1 h
        subst this
        left
        have hp : ¬ v <+: o := fun hp => ho (by simpa using hp)
        simp [Op.bytesLess, bl_255 v o hv hp]
      · right
        have h1 : ¬ d < c + 1 := by rw [UInt8.lt_iff_toNat_lt, succ_nat hc]; omega
        simp [Op.bytesLess, h1, bl_nil]
  | cons a u ih =>
    intro o ho
    cases o with
    | nil => left; rfl
    | cons d o =>
      rcases Nat.lt_trichotomy d.toNat a.toNat with h | h | h
      · left
        have : d < a := by rw [UInt8.lt_iff_toNat_lt]; exact h
        simp [Op.bytesLess, this]
      · have : d = a := UInt8.toNat_inj.1 h
        subst this
        rcases ih o (fun hp => ho (by simpa using hp)) with h | h
        · left; simp [Op.bytesLess, h]
        · right; simpa [Op.bytesLess] using h
      · right
        have h1 : ¬ d < a := by rw [UInt8.lt_iff_toNat_lt]; omega
        have h2 : ¬ d = a := fun e => by rw [e] at h; omega
        simp [Op.bytesLess, h1, h2]

/-- The law's loop goes to the prefix's end. -/
theorem law_loop (p more other s : ByteArray) (ok : Bool) (hp : p.size ≤ 140737488351232) (d : Nat) : ∀ (k i : Nat), i + d = p.size → d < k →
    ∃ j, stratalaw01_BitsAbove.l0 k p more other s ok ((p.data.toList.take i).any (· != 255)) (i : Int) =
      stratalaw01_BitsAbove.l0 (j + 1) p more other s ok (p.data.toList.any (· != 255)) (p.size : Int) := by
  induction d with
  | zero =>
    intro k i hi hk
    obtain ⟨k, rfl⟩ : ∃ m, k = m + 1 := ⟨k - 1, by omega⟩
    obtain rfl : i = p.size := by omega
    exact ⟨k, by rw [List.take_of_length_le (by rw [size_list]; exact Nat.le_refl _)]⟩
  | succ d ih =>
    intro k i hi hk
    obtain ⟨k, rfl⟩ : ∃ m, k = m + 1 := ⟨k - 1, by omega⟩
    obtain ⟨j, hj⟩ := ih k (i + 1) (by omega) (by omega)
    refine ⟨j, ?_⟩
    rw [← hj]
    have hw : wrap64 ((i : Int) + 1) = ((i + 1 : Nat) : Int) := by rw [w64 (by omega) (by omega)]; omega
    have hlt : i < p.data.toList.length := by rw [size_list]; omega
    have htk : p.data.toList.take (i + 1) = p.data.toList.take i ++ [p.data.toList.getD i 0] := by
      rw [List.take_succ_eq_append_getElem hlt, List.getD_eq_getElem?_getD, List.getElem?_eq_getElem hlt]; rfl
    rw [htk, List.any_append]
    generalize hx : (p.data.toList.take i).any (· != 255) = x9
    conv => lhs; simp only [stratalaw01_BitsAbove.l0]
    rw [if_pos (show (i : Int) < (p.size : Int) by omega), hw]
    cases x9 with
    | true => rw [if_pos rfl]; simp
    | false =>
      rw [if_neg (by decide), if_pos (by omega), bt_list]
      congr 1
      generalize p.data.toList.getD i 0 = c
      simp only [List.any_cons, List.any_nil, Bool.or_false, Bool.false_or]
      by_cases h : c = 255
      · subst h; rfl
      · have h2 : ¬ ((c.toNat : Int) = 255) := fun e => h (UInt8.toNat_inj.1 (by have : c.toNat = 255 := by omega
                                                                                 rw [this]; rfl))
        rw [bne_iff_ne.2 h, bne_iff_ne.2 h2]

theorem BitsAbove : stratalaw01_BitsAbove.Pure := by
  intro p more other hp hm ho
  have hloop := fun s ok => law_loop p more other s ok hp p.size (p.size + 1) 0 (by omega) (by omega)
  simp only [List.take_zero, List.any_nil] at hloop
  refine ⟨p.size + 1, ?_⟩
  unfold stratalaw01_BitsAbove.f bits_After.f
  rcases after_tells p.size (p.size + 1) p rfl hp (by omega) with ⟨u, c, v, h1, h2, h3, h4⟩ | ⟨h1, h2⟩
  · rw [h4]
    simp only [Option.bind_some]
    obtain ⟨j, hj⟩ := hloop ⟨(u ++ [c + 1]).toArray⟩ true
    have hj' : stratalaw01_BitsAbove.l0 (p.size + 1) p more other ⟨(u ++ [c + 1]).toArray⟩ true false 0 = _ := hj
    rw [hj']
    have hany : p.data.toList.any (· != 255) = true := by rw [h1]; simp [h2]
    rw [hany]
    simp only [stratalaw01_BitsAbove.l0]
    rw [if_neg (show ¬ (p.size : Int) < (p.size : Int) by omega), if_neg (by decide), if_pos trivial, if_pos (show p.size + more.size ≤ 9223372036854775807 by omega)]
    have e1 : Op.bytesLess (p ++ more).toList (⟨(u ++ [c + 1]).toArray⟩ : ByteArray).toList = true := by
      rw [toList_data, toList_data, append_list, h1]
      simpa using above_less u v more.data.toList c h2
    rw [if_pos e1]
    have e2 : ¬ p.data.toList <+: other.data.toList → Op.bytesLess other.toList p.toList = true ∨ Op.bytesLess other.toList (⟨(u ++ [c + 1]).toArray⟩ : ByteArray).toList = false := by
      intro h
      rw [toList_data, toList_data, toList_data, h1]
      rw [h1] at h
      simpa using between u v c h2 h3 other.data.toList h
    have e3 : p.data.toList <+: other.data.toList ↔ (p.size ≤ other.size ∧ (other.extract 0 p.size).toList = p.toList) := by
      rw [toList_data, toList_data, extract_list, List.prefix_iff_eq_take, size_list]
      simp only [List.drop_zero, Nat.sub_zero]
      constructor
      · intro h
        refine ⟨?_, h.symm⟩
        have := congrArg List.length h
        rw [List.length_take, size_list, size_list] at this
        omega
      · rintro ⟨_, h⟩; exact h.symm
    by_cases g : (other.size : Int) ≥ (p.size : Int)
    · rw [if_pos g, if_pos (show (0 : Int) ≤ (p.size : Int) by omega), if_pos (show (p.size : Int) ≤ (other.size : Int) by omega)]
      simp only [Int.toNat_natCast]
      by_cases g2 : (other.extract 0 p.size).toList = p.toList
      · rw [if_pos g2]
      · rw [if_neg g2]
        rcases e2 (fun h => g2 (e3.1 h).2) with h | h
        · rw [if_pos h]
        · by_cases h' : Op.bytesLess other.toList p.toList = true
          · rw [if_pos h']
          · rw [if_neg h', h]; rfl
    · rw [if_neg g]
      rcases e2 (fun h => g (by have := (e3.1 h).1; omega)) with h | h
      · rw [if_pos h]
      · by_cases h' : Op.bytesLess other.toList p.toList = true
        · rw [if_pos h']
        · rw [if_neg h', h]; rfl
  · rw [h2]
    simp only [Option.bind_some]
    obtain ⟨j, hj⟩ := hloop ⟨#[]⟩ false
    have hj' : stratalaw01_BitsAbove.l0 (p.size + 1) p more other ⟨#[]⟩ false false 0 = _ := hj
    rw [hj']
    have hany : p.data.toList.any (· != 255) = false := by
      rw [List.any_eq_false]
      intro b hb
      rw [h1 b hb]; decide
    rw [hany]
    simp only [stratalaw01_BitsAbove.l0]
    rw [if_neg (by omega), if_neg (by decide), if_neg (by decide), toList_data]
    rfl

end Go.Proofs.Ytnanepgcaefhcaa.Pure
