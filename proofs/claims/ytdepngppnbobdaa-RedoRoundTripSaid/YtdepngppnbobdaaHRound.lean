/- A commit that may be is read back out of its bytes; with bytes behind it, it is none; what is read is laid down as it was: plain laws. -/
import Derived.Test.YtdepngppnbobdaaHCanon
import Derived.Test.YtdepngppnbobdaaHDec
set_option linter.unusedVariables false
set_option linter.unusedSimpArgs false
namespace Go.Proofs.Ytdepngppnbobdaa.HRound
open Go.RowKit Go.Proofs.Ytdepngppnbobdaa.PRed Go.Proofs.Ytdepngppnbobdaa.HRedL Go.Proofs.Ytdepngppnbobdaa.HDec Go.Proofs.Ytdepngppnbobdaa.HBlob Go.Proofs.Ytdepngppnbobdaa.HCanon Go.Proofs.Ytdepngppnbobdaa.HCore Go.Proofs.YtdepngppnbobdaaW.PrintWords Go.Proofs.YtdepngppnbobdaaW.PrintLast

theorem blobL_is {b : ByteArray} (h : b.size ≤ 1048576) : blobL b = (uvb b.size).data.toList ++ b.data.toList := by
  unfold blobL blobOf
  rw [if_neg (by omega), append_list]
theorem byte_drop {s : ByteArray} {p : Nat} (h : p < s.size) : s.data.toList.drop p = UInt8.ofNat (bt s (p : Int) % 256).toNat :: s.data.toList.drop (p + 1) := by
  have hlt : p < s.data.toList.length := by rw [size_list]; exact h
  rw [List.drop_eq_getElem_cons hlt, bt_list, List.getD_eq_getElem?_getD, List.getElem?_eq_getElem hlt]
  congr 1
  simp only [Option.getD_some]
  have := UInt8.toNat_lt s.data.toList[p]
  rw [show ((s.data.toList[p].toNat : Int) % 256).toNat = s.data.toList[p].toNat by omega]
  simp
theorem byte_fwd {s : ByteArray} {p : Nat} {k : Int} {t : List UInt8} (hk : 0 ≤ k ∧ k < 256) (h : s.data.toList.drop p = UInt8.ofNat (k % 256).toNat :: t) : p < s.size ∧ bt s (p : Int) = k ∧ s.data.toList.drop (p + 1) = t := by
  have hl : (s.data.toList.drop p).length = t.length + 1 := by rw [h]; rfl
  rw [List.length_drop, size_list] at hl
  have hlt : p < s.size := by omega
  have e := byte_drop hlt
  rw [h] at e
  obtain ⟨e1, e2⟩ := List.cons.inj e
  refine ⟨hlt, ?_, e2.symm⟩
  have e3 := congrArg UInt8.toNat e1
  have hb := bt_rng s (p : Int)
  simp only [UInt8.toNat_ofNat'] at e3
  omega
theorem rdW_drop {s : ByteArray} {p q : Int} {x : S36} (hp : 0 ≤ p) (h : rdW s p = some (x, q)) : p < q ∧ q ≤ s.size ∧ s.data.toList.drop p.toNat = wrb x ++ s.data.toList.drop q.toNat := by
  unfold rdW at h
  obtain ⟨p, rfl⟩ := Int.eq_ofNat_of_zero_le hp
  split at h
  · rename_i hlt
    obtain ⟨key, q1, e1, hr1⟩ : ∃ v y e, rtext s ((p : Int) + 1) 1048576 = (v, y, e) := ⟨_, _, _, rfl⟩
    rw [hr1] at h
    simp only at h
    split at h
    · rename_i he1
      subst he1
      obtain ⟨a0, a1, a2, a3, a4⟩ := rtext_drop hr1
      have hb := byte_drop (s := s) (p := p) (by omega)
      rw [show ((p : Int) + 1).toNat = p + 1 by omega] at a4
      split at h
      · rename_i hk
        obtain ⟨dat, q2, e2, hr2⟩ : ∃ v y e, rtext s q1 1048576 = (v, y, e) := ⟨_, _, _, rfl⟩
        rw [hr2] at h
        simp only at h
        split at h
        · rename_i he2
          subst he2
          obtain ⟨b0, b1, b2, b3, b4⟩ := rtext_drop hr2
          obtain ⟨hx, hq⟩ := Prod.mk.inj (Option.some.inj h)
          subst hx
          subst hq
          refine ⟨by omega, b2, ?_⟩
          unfold wrb
          simp only
          rw [if_pos hk, Int.toNat_natCast, hb, a4, b4, blobL_is (by omega), blobL_is (by omega)]
          simp
        · cases h
      · rename_i hk
        obtain ⟨hx, hq⟩ := Prod.mk.inj (Option.some.inj h)
        subst hx
        subst hq
        refine ⟨by omega, a2, ?_⟩
        unfold wrb
        simp only
        rw [if_neg hk, Int.toNat_natCast, hb, a4, blobL_is (by omega)]
        simp
    · cases h
  · cases h
/-- A write that may be laid down. -/
def OkW (x : S36) : Prop := x.f1.size ≤ 160 ∧ ((x.f0 = 1 ∧ x.f2.size ≤ 512) ∨ (x.f0 = 2 ∧ x.f2 = (⟨#[]⟩ : ByteArray)))
theorem rdW_fwd {s : ByteArray} {p : Nat} {x : S36} {t : List UInt8} (hx : OkW x) (h : s.data.toList.drop p = wrb x ++ t) : rdW s (p : Int) = some (x, ((p + (wrb x).length : Nat) : Int)) ∧ s.data.toList.drop (p + (wrb x).length) = t ∧ p + (wrb x).length ≤ s.size := by
  have hk : 0 ≤ x.f0 ∧ x.f0 < 256 := by rcases hx.2 with h | h <;> omega
  have h1 := hx.1
  unfold wrb at h
  rw [List.cons_append, List.append_assoc] at h
  obtain ⟨hlt, hb, hd⟩ := byte_fwd hk h
  rw [blobL_is (show x.f1.size ≤ 1048576 by omega)] at hd
  obtain ⟨r1, d1, z1⟩ := rtext_fwd (s := s) (m := 1048576) (by omega) (by omega) (by omega) hd
  have hl1 : (blobL x.f1).length = (uvb x.f1.size).size + x.f1.size := by rw [blobL_is (by omega), List.length_append, size_list, size_list]
  unfold rdW
  rw [if_pos (by omega), show (p : Int) + 1 = ((p + 1 : Nat) : Int) by omega, r1]
  simp only
  rw [if_pos trivial, hb]
  rcases hx.2 with ⟨k1, k2⟩ | ⟨k1, k2⟩
  · rw [if_pos k1] at d1 ⊢
    rw [blobL_is (show x.f2.size ≤ 1048576 by omega)] at d1
    obtain ⟨r2, d2, z2⟩ := rtext_fwd (s := s) (m := 1048576) (by omega) (by omega) (by omega) d1
    have hl2 : (blobL x.f2).length = (uvb x.f2.size).size + x.f2.size := by rw [blobL_is (by omega), List.length_append, size_list, size_list]
    have hw : (wrb x).length = 1 + ((uvb x.f1.size).size + x.f1.size) + ((uvb x.f2.size).size + x.f2.size) := by
      unfold wrb
      rw [List.length_cons, List.length_append, if_pos k1, hl1, hl2]
      omega
    rw [r2]
    simp only
    rw [if_pos trivial, hw]
    refine ⟨?_, ?_, by omega⟩
    · congr 2; omega
    · rw [← d2]; congr 1; omega
  · rw [if_neg (by omega)] at d1 ⊢
    have hw : (wrb x).length = 1 + ((uvb x.f1.size).size + x.f1.size) := by
      unfold wrb
      rw [List.length_cons, List.length_append, if_neg (by omega), hl1, List.length_nil]
      omega
    rw [hw]
    rw [List.nil_append] at d1
    refine ⟨?_, ?_, by omega⟩
    · rw [← k2]; congr 2; omega
    · rw [← d1]; congr 1; omega
theorem run_drop {s : ByteArray} : ∀ (d : Nat) (p q : Int) (l l' : List S36), 0 ≤ p → p ≤ s.size → run s d p l = some (l', q) → ∃ ws, l' = l ++ ws ∧ ws.length = d ∧ p ≤ q ∧ q ≤ s.size ∧ s.data.toList.drop p.toNat = encl ws ++ s.data.toList.drop q.toNat := by
  intro d
  induction d with
  | zero =>
    intro p q l l' hp hps h
    obtain ⟨rfl, rfl⟩ := Prod.mk.inj (Option.some.inj h)
    exact ⟨[], by simp, rfl, Int.le_refl _, hps, by simp [encl]⟩
  | succ d ih =>
    intro p q l l' hp hps h
    simp only [run] at h
    obtain ⟨⟨x, q1⟩, hr, h⟩ := Option.bind_eq_some_iff.1 h
    obtain ⟨a1, a2, a3⟩ := rdW_drop hp hr
    obtain ⟨ws, e1, e2, e3, e4, e5⟩ := ih q1 q _ l' (by omega) a2 h
    refine ⟨x :: ws, by rw [e1]; simp, by simp [e2], by omega, e4, ?_⟩
    rw [a3, e5]
    simp [encl]
theorem run_fwd {s : ByteArray} : ∀ (ws : List S36) (p : Nat) (l : List S36) (t : List UInt8), (∀ x ∈ ws, OkW x) → s.data.toList.drop p = encl ws ++ t → p ≤ s.size → run s ws.length (p : Int) l = some (l ++ ws, ((p + (encl ws).length : Nat) : Int)) ∧ s.data.toList.drop (p + (encl ws).length) = t ∧ p + (encl ws).length ≤ s.size := by
  intro ws
  induction ws with
  | nil => intro p l t _ h hp; exact ⟨by simp [run, encl], by simpa [encl] using h, by simpa [encl] using hp⟩
  | cons x ws ih =>
    intro p l t hx h hp
    have e : encl (x :: ws) = wrb x ++ encl ws := by simp [encl]
    rw [e, List.append_assoc] at h
    obtain ⟨r1, d1, z1⟩ := rdW_fwd (hx x (by simp)) h
    obtain ⟨r2, d2, z2⟩ := ih (p + (wrb x).length) (l ++ [x]) t (fun y hy => hx y (by simp [hy])) d1 z1
    rw [e, List.length_append]
    refine ⟨?_, by rw [← d2]; congr 1; omega, by omega⟩
    rw [List.length_cons]
    simp only [run]
    rw [r1, Option.bind_some, r2]
    simp only [List.append_assoc, List.singleton_append]
    congr 2
    omega
theorem ok_each : ∀ (ws : List S36) (last : ByteArray), okFrom last ws = true → ∀ x ∈ ws, OkW x := by
  intro ws
  induction ws with
  | nil => intro last _ x hx; simp at hx
  | cons y ws ih =>
    intro last h x hx
    simp only [okFrom, Bool.and_eq_true, decide_eq_true_eq] at h
    obtain ⟨_, h1, h2, h3⟩ := h
    rcases List.mem_cons.1 hx with rfl | hx
    · refine ⟨h1, ?_⟩
      split at h2
      · rename_i hk; exact Or.inl ⟨hk, by simpa using h2⟩
      · split at h2
        · rename_i hk
          refine Or.inr ⟨hk, ba_ext ?_⟩
          rw [toList_data] at h2
          simpa using h2
        · cases h2
    · exact ih _ h3 x hx
theorem may_parts {st : Int} {ws : List S36} (h : may st ws = true) : 1 ≤ st ∧ st ≤ 4611686018427387903 ∧ 1 ≤ ws.length ∧ ws.length ≤ 128 ∧ ∀ x ∈ ws, OkW x := by
  unfold may at h
  simp only [Bool.and_eq_true, decide_eq_true_eq] at h
  exact ⟨h.1.1, h.1.2.1, h.1.2.2.1, h.1.2.2.2, ok_each ws _ h.2⟩
theorem decC_fwd {s : ByteArray} {st : Int} {ws : List S36} {t : List UInt8} (hm : may st ws = true) (h : s.data.toList = enc st ws ++ t) : decC s = if t = [] then some (st, ws) else none := by
  obtain ⟨m1, m2, m3, m4, m5⟩ := may_parts hm
  unfold enc at h
  rw [List.append_assoc, List.append_assoc] at h
  obtain ⟨r1, d1, z1⟩ := ruv_fwd (s := s) (p := 0) (v := st.toNat) (Nat.zero_le _) (by omega) (by rw [List.drop_zero]; exact h)
  obtain ⟨r2, d2, z2⟩ := ruv_fwd (s := s) (v := ws.length) z1 (by omega) d1
  obtain ⟨r3, d3, z3⟩ := run_fwd ws _ [] t m5 d2 z2
  rw [show ((0 : Nat) : Int) = 0 from rfl] at r1
  unfold decC
  rw [r1]
  simp only
  rw [if_pos trivial, r2]
  simp only
  rw [if_pos ⟨trivial, by omega⟩, Int.toNat_natCast, r3, List.nil_append]
  unfold fin
  rw [Option.bind_some]
  simp only
  have hl : s.data.toList.length - (0 + (uvb st.toNat).size + (uvb ws.length).size + (encl ws).length) = t.length := by rw [← List.length_drop, d3]
  rw [size_list] at hl
  rw [Int.toNat_of_nonneg (by omega)]
  by_cases ht : t = []
  · subst ht
    rw [List.length_nil] at hl
    rw [if_pos rfl, if_pos ⟨hm, by omega⟩]
  · have : 0 < t.length := List.length_pos_iff.2 ht
    rw [if_neg ht, if_neg (fun hx => by omega)]
theorem decC_drop {s : ByteArray} {st : Int} {ws : List S36} (h : decC s = some (st, ws)) : s.data.toList = enc st ws ∧ may st ws = true := by
  unfold decC at h
  obtain ⟨v1, q1, e1, hr1⟩ : ∃ v y e, ruv s 0 = (v, y, e) := ⟨_, _, _, rfl⟩
  rw [hr1] at h
  simp only at h
  split at h
  · rename_i he1
    subst he1
    obtain ⟨a0, a1, a2, a3, a4, a5⟩ := ruv_drop hr1
    obtain ⟨v2, q2, e2, hr2⟩ : ∃ v y e, ruv s q1 = (v, y, e) := ⟨_, _, _, rfl⟩
    rw [hr2] at h
    simp only at h
    split at h
    · rename_i he2
      obtain ⟨he2, hv2⟩ := he2
      subst he2
      obtain ⟨b0, b1, b2, b3, b4, b5⟩ := ruv_drop hr2
      unfold fin at h
      obtain ⟨⟨l, q⟩, hr, h⟩ := Option.bind_eq_some_iff.1 h
      simp only at h
      split at h
      · rename_i hx
        obtain ⟨hm, hq⟩ := hx
        obtain ⟨rfl, rfl⟩ := Prod.mk.inj (Option.some.inj h)
        obtain ⟨ws, c1, c2, c3, c4, c5⟩ := run_drop _ _ _ _ _ (by omega) b2 hr
        rw [List.nil_append] at c1
        subst c1
        refine ⟨?_, hm⟩
        rw [show (0 : Int).toNat = 0 from rfl, List.drop_zero] at a5
        rw [hq, show ((s.size : Int)).toNat = s.data.toList.length by rw [size_list]; omega, List.drop_length, List.append_nil] at c5
        rw [a5, b5, c5, ← c2]
        unfold enc
        simp
      · cases h
    · cases h
  · cases h
theorem enc_ne {st : Int} {ws : List S36} (hm : may st ws = true) : enc st ws ≠ [] := by
  intro h
  have h1 := decC_fwd (s := (⟨#[]⟩ : ByteArray)) (t := []) hm (by rw [h]; rfl)
  rw [if_pos rfl] at h1
  have h2 : decC (⟨#[]⟩ : ByteArray) = none := by decide +kernel
  rw [h2] at h1
  cases h1
/-- Cut short, it is none. -/
theorem decC_cut {s : ByteArray} {st : Int} {ws : List S36} {c : UInt8} (hm : may st ws = true) (h : s.data.toList ++ [c] = enc st ws) : decC s = none := by
  cases hd : decC s with
  | none => rfl
  | some r =>
    obtain ⟨st', ws'⟩ := r
    obtain ⟨e1, m1⟩ := decC_drop hd
    have h1 := decC_fwd (s := ⟨(enc st ws).toArray⟩) (t := [c]) m1 (by rw [← e1, h])
    have h2 := decC_fwd (s := ⟨(enc st ws).toArray⟩) (t := []) hm (by simp)
    rw [if_neg (by simp)] at h1
    rw [if_pos rfl] at h2
    rw [h1] at h2
    cases h2
end Go.Proofs.Ytdepngppnbobdaa.HRound
