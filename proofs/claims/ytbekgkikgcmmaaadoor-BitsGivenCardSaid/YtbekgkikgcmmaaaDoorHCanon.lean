/- What is read is laid down in that one form: a number, a text with its length ahead; as lists of bytes. -/
import Derived.Test.YtbekgkikgcmmaaaDoorHCore2
set_option linter.unusedVariables false
set_option linter.unusedSimpArgs false
namespace Go.Proofs.YtbekgkikgcmmaaaDoor.HCanon
open Go.RowKit Go.Proofs.YtbekgkikgcmmaaaDoorW.PrintWords Go.Proofs.YtbekgkikgcmmaaaDoorW.PrintLast Go.Proofs.YtbekgkikgcmmaaaDoor.HCore

theorem At_cons {s : ByteArray} {q y : Int} {ys : List Int} (h0 : bt s q = y) (h : At s (q + 1) ys) : At s q (y :: ys) := fun j hj => by
  cases j with
  | zero => simpa using h0
  | succ j =>
    have := h j (by simpa using hj)
    rw [List.getD_cons_succ, ← this]
    congr 1
    omega
theorem ruvFrom_canon (s : ByteArray) (p : Int) : ∀ (d i : Nat) (v q : Int), d + i = 10 → ruvFrom s p d i = (v, q, 0) →
    ∃ x : Nat, v = uval s p i + (x : Int) * 128 ^ i ∧ (i = 0 ∨ 0 < x) ∧ q = p + i + (uvl d x).length ∧ At s (p + i) ((uvl d x).map fun (n : Nat) => (n : Int)) := by
  intro d
  induction d with
  | zero => intro i v q _ h; simp [ruvFrom] at h
  | succ d ih =>
    intro i v q hd h
    have hb := bt_rng s (p + i)
    simp only [ruvFrom] at h
    split at h
    · simp at h
    · split at h
      · simp at h
      · split at h
        · rename_i hlt
          split at h
          · simp at h
          · rename_i hz
            obtain ⟨h1, h2⟩ := Prod.mk.inj h
            obtain ⟨h2, _⟩ := Prod.mk.inj h2
            obtain ⟨x, hx⟩ := Int.eq_ofNat_of_zero_le hb.1
            have hxl : x < 128 := by omega
            have e : uvl (d + 1) x = [x] := by rw [uvl, if_neg (by omega)]
            refine ⟨x, ?_, ?_, ?_, ?_⟩
            · rw [← h1]
              simp only [uval]
              rw [hx, show ((x : Int) % 128) = (x : Int) by omega]
            · rcases Nat.eq_zero_or_pos i with h0 | h0
              · exact Or.inl h0
              · right
                apply Nat.pos_of_ne_zero
                intro hx0
                exact hz ⟨by rw [hx, hx0]; rfl, h0⟩
            · rw [e, List.length_singleton]; omega
            · rw [e]
              exact At_cons hx (fun j hj => by simp at hj)
        · rename_i hge
          obtain ⟨x, h1, h2, h3, h4⟩ := ih (i + 1) v q (by omega) h
          have hx0 : 0 < x := by rcases h2 with h2 | h2 <;> omega
          obtain ⟨c, hc⟩ := Int.eq_ofNat_of_zero_le hb.1
          have e : uvl (d + 1) (c % 128 + 128 * x) = c :: uvl d x := by
            rw [uvl, if_pos (by omega), show (c % 128 + 128 * x) / 128 = x by omega, show (c % 128 + 128 * x) % 128 + 128 = c by omega]
          refine ⟨c % 128 + 128 * x, ?_, Or.inr (by omega), ?_, ?_⟩
          · rw [h1]
            simp only [uval]
            rw [hc, Int.pow_succ]
            have ec : ((c : Int) % 128) = ((c % 128 : Nat) : Int) := by omega
            rw [ec, Int.natCast_add, Int.natCast_mul, Int.add_mul]
            have : (x : Int) * (128 ^ i * 128) = ((128 : Nat) : Int) * (x : Int) * 128 ^ i := by rw [Int.mul_comm (128 ^ i) 128, ← Int.mul_assoc, Int.mul_comm (x : Int) 128]; rfl
            omega
          · rw [e, List.length_cons]; omega
          · rw [e, List.map_cons]
            exact At_cons hc (by rw [show p + (i : Int) + 1 = p + ((i + 1 : Nat) : Int) by omega]; exact h4)
theorem ruv_canon {s : ByteArray} {p v q : Int} (h : ruv s p = (v, q, 0)) : ∃ x : Nat, v = (x : Int) ∧ x < 2 ^ 64 ∧ 0 ≤ p ∧ q = p + (uvl 10 x).length ∧ q ≤ s.size ∧ At s p ((uvl 10 x).map fun (n : Nat) => (n : Int)) := by
  have hg := ruv_good s p
  rw [h] at hg
  rcases hg with ⟨_, h0, h1, h2, h3, h4, h5⟩ | ⟨h0, _⟩
  · unfold ruv at h
    rw [if_neg (by omega)] at h
    obtain ⟨x, e1, _, e3, e4⟩ := ruvFrom_canon s p 10 0 v q rfl h
    simp only [uval] at e1
    simp at e1
    refine ⟨x, e1, by simp only at h1 h2; omega, h0, by simpa using e3, h4, by simpa using e4⟩
  · exact absurd rfl h0
/-- What stands at a place, as a list. -/
theorem At_drop {s : ByteArray} {p : Nat} {ys : List Int} (h : At s p ys) (hl : p + ys.length ≤ s.size) : s.data.toList.drop p = ys.map (fun n => UInt8.ofNat n.toNat) ++ s.data.toList.drop (p + ys.length) := by
  apply List.ext_getElem?
  intro j
  by_cases hj : j < ys.length
  · have hb := h j hj
    rw [show (p : Int) + (j : Int) = ((p + j : Nat) : Int) by omega, bt_list] at hb
    have hlt : p + j < s.data.toList.length := by rw [size_list]; omega
    rw [List.getElem?_drop, List.getElem?_append_left (by simpa using hj), List.getElem?_map, List.getElem?_eq_getElem hlt]
    rw [List.getD_eq_getElem?_getD, List.getElem?_eq_getElem hlt] at hb
    rw [List.getElem?_eq_getElem hj]
    rw [List.getD_eq_getElem?_getD, List.getElem?_eq_getElem hj] at hb
    simp only [Option.getD_some] at hb
    simp only [Option.map_some, Option.some.injEq]
    rw [← hb]
    simp
  · rw [List.getElem?_append_right (by simpa using hj), List.getElem?_drop, List.getElem?_drop, List.length_map]
    congr 1
    omega
theorem ruv_drop {s : ByteArray} {p v q : Int} (h : ruv s p = (v, q, 0)) : 0 ≤ p ∧ p < q ∧ q ≤ s.size ∧ 0 ≤ v ∧ v < 18446744073709551616 ∧ s.data.toList.drop p.toNat = (uvb v.toNat).data.toList ++ s.data.toList.drop q.toNat := by
  obtain ⟨x, rfl, hx, hp, hq, hqs, hA⟩ := ruv_canon h
  obtain ⟨p, rfl⟩ := Int.eq_ofNat_of_zero_le hp
  have hlen := List.length_pos_iff.2 (uvl_ne (v := x) (show 1 ≤ 10 by decide))
  have e := At_drop hA (by rw [List.length_map]; omega)
  refine ⟨hp, by omega, hqs, by omega, by omega, ?_⟩
  rw [Int.toNat_natCast, Int.toNat_natCast, uvb_list, e, List.length_map]
  congr 2
  omega
/-- .. and the other way. -/
theorem ruv_fwd {s : ByteArray} {p : Nat} {v : Nat} {t : List UInt8} (hp : p ≤ s.size) (hv : v < 2 ^ 64) (h : s.data.toList.drop p = (uvb v).data.toList ++ t) : ruv s (p : Int) = ((v : Int), ((p + (uvb v).size : Nat) : Int), 0) ∧ s.data.toList.drop (p + (uvb v).size) = t ∧ p + (uvb v).size ≤ s.size := by
  have hs : s = ((s.extract 0 p) ++ uvb v) ++ ⟨t.toArray⟩ := by
    apply ba_ext
    rw [append_list, append_list, extract_list, List.drop_zero, Nat.sub_zero, List.append_assoc, show (⟨t.toArray⟩ : ByteArray).data.toList = t from rfl, ← h, List.take_append_drop]
  have hz := ext_size0 s p hp
  have e := ruv_back (s.extract 0 p) ⟨t.toArray⟩ v hv
  rw [← hs, hz] at e
  have hl : (s.data.toList.drop p).length = (uvb v).size + t.length := by rw [h, List.length_append, size_list]
  rw [List.length_drop, size_list] at hl
  refine ⟨by rw [e]; simp, ?_, by omega⟩
  rw [← List.drop_drop, h, List.drop_append_of_le_length (by rw [size_list]; omega), List.drop_of_length_le (by rw [size_list]; omega), List.nil_append]
theorem rtext_drop {s b : ByteArray} {p q m : Int} (h : rtext s p m = (b, q, 0)) : 0 ≤ p ∧ p < q ∧ q ≤ s.size ∧ (b.size : Int) ≤ m ∧ s.data.toList.drop p.toNat = ((uvb b.size).data.toList ++ b.data.toList) ++ s.data.toList.drop q.toNat := by
  unfold rtext at h
  obtain ⟨v, q0, e, hr⟩ : ∃ v q e, ruv s p = (v, q, e) := ⟨_, _, _, rfl⟩
  rw [hr] at h
  simp only at h
  split at h
  · rename_i he
    subst he
    obtain ⟨h0, h1, h2, h3, h4, h5⟩ := ruv_drop hr
    split at h
    · simp at h
    · split at h
      · simp at h
      · obtain ⟨hb, h⟩ := Prod.mk.inj h
        obtain ⟨hq, _⟩ := Prod.mk.inj h
        subst hb
        subst hq
        obtain ⟨n, rfl⟩ := Int.eq_ofNat_of_zero_le h3
        obtain ⟨q0, rfl⟩ := Int.eq_ofNat_of_zero_le (show 0 ≤ q0 by omega)
        have e1 : ((q0 : Int) + (n : Int)).toNat = q0 + n := by omega
        rw [Int.toNat_natCast, e1]
        have hbl : (s.extract q0 (q0 + n)).data.toList = (s.data.toList.drop q0).take n := by rw [extract_list]; congr 1; omega
        have hsz : (s.extract q0 (q0 + n)).size = n := by rw [← size_list, hbl, List.length_take, List.length_drop, size_list]; omega
        refine ⟨h0, by omega, by omega, by rw [hsz]; omega, ?_⟩
        rw [hsz, hbl, h5, Int.toNat_natCast, Int.toNat_natCast, ← List.drop_drop, List.append_assoc, List.take_append_drop]
  · rename_i he
    simp only [Prod.mk.injEq] at h
    exact absurd h.2.2 he
theorem rtext_fwd {s b : ByteArray} {p : Nat} {m : Int} {t : List UInt8} (hp : p ≤ s.size) (hb : (b.size : Int) ≤ m) (hb2 : b.size < 2 ^ 64) (h : s.data.toList.drop p = ((uvb b.size).data.toList ++ b.data.toList) ++ t) :
    rtext s (p : Int) m = (b, ((p + ((uvb b.size).size + b.size) : Nat) : Int), 0) ∧ s.data.toList.drop (p + ((uvb b.size).size + b.size)) = t ∧ p + ((uvb b.size).size + b.size) ≤ s.size := by
  have hs : s = ((s.extract 0 p) ++ (uvb b.size ++ b)) ++ ⟨t.toArray⟩ := by
    apply ba_ext
    rw [append_list, append_list, append_list, extract_list, List.drop_zero, Nat.sub_zero, List.append_assoc, show (⟨t.toArray⟩ : ByteArray).data.toList = t from rfl, ← h, List.take_append_drop]
  have hz := ext_size0 s p hp
  have e := rtext_back (s.extract 0 p) b ⟨t.toArray⟩ m hb hb2
  rw [← hs, hz, app_size] at e
  have hl : (s.data.toList.drop p).length = (uvb b.size).size + b.size + t.length := by rw [h, List.length_append, List.length_append, size_list, size_list]
  rw [List.length_drop, size_list] at hl
  refine ⟨by rw [e]; simp, ?_, by omega⟩
  rw [← List.drop_drop, h, List.drop_append_of_le_length (by rw [List.length_append, size_list, size_list]; omega), List.drop_of_length_le (by rw [List.length_append, size_list, size_list]; omega), List.nil_append]
end Go.Proofs.YtbekgkikgcmmaaaDoor.HCanon
