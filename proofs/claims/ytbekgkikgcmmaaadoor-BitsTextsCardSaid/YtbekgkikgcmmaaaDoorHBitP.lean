/- The document's readers of a key and of a row, as plain functions: what they tell. -/
import Derived.Test.YtbekgkikgcmmaaaDoorPTxtx5
set_option linter.unusedVariables false
set_option linter.unusedSimpArgs false
namespace Go.Proofs.YtbekgkikgcmmaaaDoor.HBitP
open Go.RowKit Go.Proofs.YtbekgkikgcmmaaaDoor.PBit Go.Proofs.YtbekgkikgcmmaaaDoor.HBase Go.Proofs.YtbekgkikgcmmaaaDoorW.PrintWords Go.Proofs.YtbekgkikgcmmaaaDoorW.PrintLast Go.Proofs.YtbekgkikgcmmaaaDoorW.PrintMore Go.Proofs.YtbekgkikgcmmaaaDoor.HCore Go.Proofs.YtbekgkikgcmmaaaDoor.HBitV Go.Proofs.YtbekgkikgcmmaaaDoor.HBitK Go.Proofs.YtbekgkikgcmmaaaDoor.HBitC Go.Proofs.YtbekgkikgcmmaaaDoor.HBitW

theorem same_l (l : List S33) (hl : l.length ≤ 100) : ∀ (d i : Nat), l.length = i + d → stratalaw01_same.l0 (d + 1) l l (i : Int) = some true
  | 0, i, h => by
    simp only [stratalaw01_same.l0]
    rw [if_neg (by omega)]
  | d + 1, i, h => by
    rw [stratalaw01_same.l0]
    rw [if_pos (by omega), if_pos (by omega), if_pos (by omega), w64 (n := (i : Int) + 1) (by omega) (by omega)]
    have := same_l l hl d (i + 1) (by omega)
    rw [show ((i + 1 : Nat) : Int) = (i : Int) + 1 by omega] at this
    simp [this]
theorem same_refl (l : List S33) (hl : l.length ≤ 100) (k : Nat) (hk : l.length + 1 ≤ k) : stratalaw01_same.f k l l = some true := by
  refine at_rounds (fun k => stratalaw01_same.mono l l k) hk ?_
  unfold stratalaw01_same.f
  rw [if_pos rfl]
  exact same_l l hl l.length 0 (by omega)
set_option maxHeartbeats 1000000 in
theorem ref_esc (s : ByteArray) (hs : s.size ≤ 140737488351232) (at_ : Int) : ∀ (k : Nat) (p : Int) (l : List Int), 0 ≤ p → p ≤ (s.size : Int) → l.length ≤ 4096 → (s.size : Int) < p + k →
    strataref01_readEscaped.l0 k s at_ l p 0 0 (⟨#[]⟩ : ByteArray) = some (if (esc s k p l).2.2 = 0 then (3, 0, (esc s k p l).1, (esc s k p l).2.1, 0) else (0, 0, (⟨#[]⟩ : ByteArray), at_, (esc s k p l).2.2))
  | 0, p, l, h0, h1, h2, h3 => absurd h3 (by omega)
  | k + 1, p, l, h0, h1, h2, h3 => by
    simp only [strataref01_readEscaped.l0, esc]
    by_cases c1 : p < (s.size : Int)
    · have e1 : wrap64 (p + 1) = p + 1 := w64 (by omega) (by omega)
      have e2 : wrap64 (p + 2) = p + 2 := w64 (by omega) (by omega)
      have hl : l.length < 140737488355328 := by omega
      simp only [if_pos c1, if_pos h0, e1, e2]
      by_cases c2 : bt s p = 0
      · simp only [if_pos c2]
        by_cases c3 : p + 1 < (s.size : Int)
        · have c3' : ¬ p + 1 = (s.size : Int) := by omega
          have c3p : 0 ≤ p + 1 := by omega
          simp only [if_pos c3, if_neg c3', if_pos c3p]
          by_cases c4 : bt s (p + 1) = 1
          · simp [if_pos c4]
          · simp only [if_neg c4]
            by_cases c5 : bt s (p + 1) = 255
            · simp only [if_pos c5]
              by_cases c6 : (l.length : Int) = 4096
              · simp [if_pos c6]
              · simp only [if_neg c6, if_pos hl]
                exact ref_esc s hs at_ k (p + 2) _ (by omega) (by omega) (by rw [List.length_append, List.length_singleton]; omega) (by omega)
            · simp [if_neg c5]
        · have c3' : p + 1 = (s.size : Int) := by omega
          simp [if_neg c3, if_pos c3']
      · simp only [if_neg c2]
        by_cases c6 : (l.length : Int) = 4096
        · simp [if_pos c6]
        · simp only [if_neg c6, if_pos hl]
          exact ref_esc s hs at_ k (p + 1) _ (by omega) (by omega) (by rw [List.length_append, List.length_singleton]; omega) (by omega)
    · simp [if_neg c1]
/-- What the document's readers answer of a value: it and the next byte, or nothing and the fault. -/
def tellV (at_ : Int) (r : S33 × Int × Int) : Int × Int × ByteArray × Int × Int := if r.2.2 = 0 then (r.1.f0, r.1.f1, r.1.f2, r.2.1, 0) else (0, 0, (⟨#[]⟩ : ByteArray), at_, r.2.2)
def intV (r : Int × Int × Int) : S33 × Int × Int := (⟨2, r.1, (⟨#[]⟩ : ByteArray)⟩, r.2)
set_option maxHeartbeats 1000000 in
theorem ref_int_l (s : ByteArray) (hs : s.size ≤ 140737488351232) (p t : Int) (hp : 0 ≤ p) (ht : t = 0 ∨ t = 255) (n : Nat) (hn : n ≤ 8) (hr : p + 1 + n ≤ (s.size : Int)) : ∀ (d i : Nat), n = i + d →
    strataref01_readInt.l0 (d + 1) s p (decide (t = 255)) n t (bigv s (p + 1) t i) i 0 0 (⟨#[]⟩ : ByteArray) =
      some (if bigv s (p + 1) t n > 9223372036854775807 then (0, 0, (⟨#[]⟩ : ByteArray), p, 10) else (2, if t = 0 then bigv s (p + 1) t n else -1 - bigv s (p + 1) t n, (⟨#[]⟩ : ByteArray), p + 1 + n, 0))
  | 0, i, h => by
    obtain rfl : n = i := by omega
    obtain ⟨b0, _, b1⟩ := bigv_lt s (p + 1) t ht n
    have b1 := b1 hn
    rw [strataref01_readInt.l0, if_neg (by omega)]
    by_cases hb : bigv s (p + 1) t n > 9223372036854775807
    · rw [if_pos hb, if_pos hb]
    · rw [if_neg hb, if_neg hb, w64 (n := p + 1) (by omega) (by omega), w64 (n := p + 1 + n) (by omega) (by omega), w64 (n := bigv s (p + 1) t n) (by omega) (by omega)]
      rcases ht with rfl | rfl
      · simp
      · rw [w64 (n := -1 - bigv s (p + 1) 255 n) (by omega) (by omega)]
        simp
  | d + 1, i, h => by
    obtain ⟨b0, b1, _⟩ := bigv_lt s (p + 1) t ht i
    have b1 := b1 (by omega)
    have hx := xor_rng (bt s (p + 1 + i)) t (by have := bt_rng s (p + 1 + i); omega) ht
    rw [strataref01_readInt.l0, if_pos (by omega), w64 (n := p + 1) (by omega) (by omega), w64 (n := p + 1 + i) (by omega) (by omega), if_pos (by omega), if_pos (by omega), w64 (n := (i : Int) + 1) (by omega) (by omega)]
    rw [wu64 (n := bigv s (p + 1) t i * 256) (by omega) (by omega), wu64 (n := Go.bits .xor .u8 (bt s (p + 1 + i)) t) (by omega) (by omega), wu64 (by omega) (by omega)]
    exact ref_int_l s hs p t hp ht n hn hr d (i + 1) (by omega)
set_option maxHeartbeats 1000000 in
theorem ref_int_j (s : ByteArray) (hs : s.size ≤ 140737488351232) (p t : Int) (hp : 0 ≤ p) (hps : p < (s.size : Int)) (ht : t = 0 ∨ t = 255) (n : Nat) (hn : n ≤ 8) :
    strataref01_readInt.j0 11 s p (decide (t = 255)) n t 0 0 (⟨#[]⟩ : ByteArray) = some (tellV p (intV (rdI s (p + 1) t n))) := by
  rw [strataref01_readInt.j0, w64 (n := (s.size : Int) - p) (by omega) (by omega), w64 (by omega) (by omega), w64 (n := p + 1) (by omega) (by omega)]
  by_cases h1 : (s.size : Int) - (p + 1) < n
  · have hd : rdI s (p + 1) t n = (0, 0, 11) := by unfold rdI; rw [if_pos h1]
    rw [if_pos (by omega), hd]; simp [tellV, intV]
  · rw [if_neg (by omega)]
    have hl : strataref01_readInt.l0 9 s p (decide (t = 255)) n t 0 0 0 0 (⟨#[]⟩ : ByteArray) = _ :=
      at_rounds (g := fun k => strataref01_readInt.l0 k s p (decide (t = 255)) n t 0 0 0 0 (⟨#[]⟩ : ByteArray)) (fun k => (strataref01_readInt.mono_l k).2.2 _ _ _ _ _ _ _ _ _ _) (by omega : n + 1 ≤ 9) (ref_int_l s hs p t hp ht n hn (by omega) n 0 (by omega))
    by_cases h2 : 0 < n
    · rw [if_pos (by omega), if_pos (by omega), if_pos (by omega), strataref01_readInt.j1]
      by_cases h3 : Go.bits .xor .u8 (bt s (p + 1)) t = 0
      · have hd : rdI s (p + 1) t n = (0, 0, 13) := by unfold rdI; rw [if_neg h1, if_pos ⟨h2, h3⟩]
        rw [if_pos (beq_iff_eq.2 h3), hd]; simp [tellV, intV]
      · rw [if_neg (by simpa using h3), hl]
        by_cases h4 : bigv s (p + 1) t n > 9223372036854775807
        · have hd : rdI s (p + 1) t n = (0, 0, 10) := by unfold rdI; rw [if_neg h1, if_neg (fun h => h3 h.2), if_pos h4]
          rw [if_pos h4, hd]; simp [tellV, intV]
        · have hd : rdI s (p + 1) t n = (if t = 0 then bigv s (p + 1) t n else -1 - bigv s (p + 1) t n, p + 1 + n, 0) := by unfold rdI; rw [if_neg h1, if_neg (fun h => h3 h.2), if_neg h4]
          rw [if_neg h4, hd]; simp [tellV, intV]
    · rw [if_neg (by omega), strataref01_readInt.j1, if_neg (by decide), hl]
      by_cases h4 : bigv s (p + 1) t n > 9223372036854775807
      · have hd : rdI s (p + 1) t n = (0, 0, 10) := by unfold rdI; rw [if_neg h1, if_neg (fun h => h2 h.1), if_pos h4]
        rw [if_pos h4, hd]; simp [tellV, intV]
      · have hd : rdI s (p + 1) t n = (if t = 0 then bigv s (p + 1) t n else -1 - bigv s (p + 1) t n, p + 1 + n, 0) := by unfold rdI; rw [if_neg h1, if_neg (fun h => h2 h.1), if_neg h4]
        rw [if_neg h4, hd]; simp [tellV, intV]
set_option maxHeartbeats 1000000 in
theorem ref_one (s : ByteArray) (hs : s.size ≤ 140737488351232) (p : Int) (hp : 0 ≤ p) (hps : p < (s.size : Int)) (k : Nat) (hk : s.size + 30 ≤ k) : strataref01_readOne.f k s p = some (tellV p (rdV s p)) := by
  refine at_rounds (g := fun k => strataref01_readOne.f k s p) (fun k => strataref01_readOne.mono s p k) hk ?_
  have hb := bt_rng s p
  have e1 : wrap64 (p + 1) = p + 1 := w64 (by omega) (by omega)
  unfold strataref01_readOne.f rdV
  rw [if_pos hp, if_pos hps, if_pos hps, w64 (n := bt s p) (by omega) (by omega)]
  have hI : ∀ j, s.size + 12 ≤ j → strataref01_readInt.f j s p = if bt s p < 56 then strataref01_readInt.j0 j s p (decide (bt s p < 56)) (55 - bt s p) 255 0 0 (⟨#[]⟩ : ByteArray) else strataref01_readInt.j0 j s p (decide (bt s p < 56)) (bt s p - 56) 0 0 0 (⟨#[]⟩ : ByteArray) := by
    intro j hj
    unfold strataref01_readInt.f
    rw [if_pos hp, if_pos hps, w64 (n := bt s p) (by omega) (by omega), w64 (n := 55 - bt s p) (by omega) (by omega), w64 (n := bt s p - 56) (by omega) (by omega)]
  have hE : ∀ j, s.size + 2 ≤ j → strataref01_readEscaped.f j s p = some (tellV p (⟨3, 0, (esc s (s.size + 1) (p + 1) []).1⟩, (esc s (s.size + 1) (p + 1) []).2)) := by
    intro j hj
    refine at_rounds (g := fun k => strataref01_readEscaped.f k s p) (fun k => strataref01_readEscaped.mono s p k) (by omega : s.size + 1 ≤ j) ?_
    unfold strataref01_readEscaped.f
    rw [e1]
    exact ref_esc s hs p (s.size + 1) (p + 1) [] (by omega) (by omega) (by simp) (by omega)
  have hJ : ∀ (j : Nat) (t : Int) (n : Nat), 11 ≤ j → (t = 0 ∨ t = 255) → n ≤ 8 → strataref01_readInt.j0 j s p (decide (t = 255)) n t 0 0 (⟨#[]⟩ : ByteArray) = some (tellV p (intV (rdI s (p + 1) t n))) := fun j t n hj ht hn =>
    at_rounds (g := fun k => strataref01_readInt.j0 k s p (decide (t = 255)) n t 0 0 (⟨#[]⟩ : ByteArray)) (fun k => (strataref01_readInt.mono_l k).1 _ _ _ _ _ _ _ _) hj (ref_int_j s hs p t hp hps ht n hn)
  have hbd : ∀ v : Int × Int × ByteArray × Int × Int, (some v).bind (fun bt190 : Int × Int × ByteArray × Int × Int => (some (bt190.1, bt190.2.1, bt190.2.2.1, bt190.2.2.2.1, bt190.2.2.2.2))) = some v := fun v => rfl
  have e32 : wrap64 (bt s p - 32) = bt s p - 32 := w64 (by omega) (by omega)
  generalize hc : bt s p = c at hb hI e32 ⊢
  rw [show s.size + 30 = (s.size + 28 + 1) + 1 from rfl]
  by_cases c1 : c = 16
  · rw [if_pos c1, if_pos c1, e1]; rfl
  · rw [if_neg c1, if_neg c1]
    by_cases c2 : c = 32
    · rw [if_pos c2, if_pos (Or.inl c2), strataref01_readOne.j0, if_pos rfl, e1, e32]; simp [tellV]
    · rw [if_neg c2]
      by_cases c3 : c = 33
      · rw [if_pos (Or.inr c3), strataref01_readOne.j0, if_pos (by simp [c3]), e1, e32]; simp [tellV]
      · rw [if_neg (fun h => h.elim c2 c3), strataref01_readOne.j0, if_neg (by simp [c3])]
        by_cases c4 : c ≥ 47
        · rw [if_pos c4]
          by_cases c5 : c ≤ 64
          · rw [strataref01_readOne.j1, if_pos (decide_eq_true c5), hI _ (by omega)]
            by_cases c6 : c < 56
            · rw [if_pos c6, if_neg (by omega), if_pos ⟨c6, by omega⟩]
              have h := hJ (s.size + 28) 255 (55 - c).toNat (by omega) (Or.inr rfl) (by omega)
              rw [show (((55 - c).toNat : Nat) : Int) = 55 - c by omega] at h
              rw [show decide (c < 56) = decide ((255 : Int) = 255) by simp [c6], h, hbd]
              rfl
            · rw [if_neg c6, if_pos ⟨by omega, c5⟩]
              have h := hJ (s.size + 28) 0 (c - 56).toNat (by omega) (Or.inl rfl) (by omega)
              rw [show (((c - 56).toNat : Nat) : Int) = c - 56 by omega] at h
              rw [show decide (c < 56) = decide ((0 : Int) = 255) by simp [c6], h, hbd]
              rfl
          · rw [strataref01_readOne.j1, if_neg (by simpa using c5), if_neg (show ¬ (56 ≤ c ∧ c ≤ 64) from fun h => c5 h.2), if_neg (show ¬ (c < 56 ∧ 47 ≤ c) by omega)]
            by_cases c7 : c = 80
            · rw [if_pos c7, if_pos c7, hE _ (by omega), hbd]
            · rw [if_neg c7, if_neg c7]; rfl
        · have c7 : ¬ c = 80 := by omega
          rw [if_neg c4, strataref01_readOne.j1, if_neg (by decide), if_neg (show ¬ (56 ≤ c ∧ c ≤ 64) by omega), if_neg (show ¬ (c < 56 ∧ 47 ≤ c) by omega), if_neg c7, if_neg c7]; rfl
theorem ref_key_l (s : ByteArray) (hs : s.size ≤ 140737488351232) : ∀ (k : Nat) (p : Int) (l : List S33), 0 ≤ p → l.length ≤ 16 → k + l.length = 17 →
    strataref01_ReadKey.l0 (k + s.size + 40) s l p = some (krun s k p l)
  | 0, p, l, h0, h1, h2 => absurd h2 (by omega)
  | k + 1, p, l, h0, h1, h2 => by
    rw [show k + 1 + s.size + 40 = (k + s.size + 40) + 1 by omega, strataref01_ReadKey.l0, krun]
    by_cases c1 : p < (s.size : Int)
    · rw [if_pos c1, if_pos c1]
      by_cases c2 : (l.length : Int) = 16
      · rw [if_pos c2, if_pos c2]
      · rw [if_neg c2, if_neg c2, ref_one s hs p h0 c1 _ (by omega)]
        simp only [Option.bind_some]
        unfold tellV
        by_cases c3 : (rdV s p).2.2 = 0
        · rw [if_pos c3, if_pos c3]
          simp only
          rw [if_pos trivial, if_pos (by omega)]
          exact ref_key_l s hs k (rdV s p).2.1 _ (by have := rdV_pos s p h0 c3; omega) (by rw [List.length_append, List.length_singleton]; omega) (by rw [List.length_append, List.length_singleton]; omega)
        · rw [if_neg c3, if_neg c3]
          simp only
          rw [if_neg c3]
    · rw [if_neg c1, if_neg c1]
theorem ref_col (s : ByteArray) (hs : s.size ≤ 140737488351232) (p k : Int) (hp : 0 ≤ p) (hps : p ≤ (s.size : Int)) (hk : 0 ≤ k ∧ k ≤ 3) : strataref01_readColumn.f s p k = some (tellV p (rdC s p k)) := by
  have h4 : k = 0 ∨ k = 1 ∨ k = 2 ∨ k = 3 := by omega
  unfold strataref01_readColumn.f rdC
  rcases h4 with rfl | rfl | rfl | rfl
  · rfl
  · rw [if_pos rfl, if_neg (show ¬ (1 : Int) = 0 by decide), if_pos (rfl : (1 : Int) = 1)]
    have hb := bt_rng s p
    by_cases c1 : p < (s.size : Int)
    · rw [if_neg (by omega), if_pos hp, if_pos c1, if_pos c1]
      by_cases c2 : bt s p ≤ 1
      · rw [if_neg (by omega), if_pos c2, w64 (n := bt s p) (by omega) (by omega), w64 (n := p + 1) (by omega) (by omega)]; rfl
      · rw [if_pos (by omega), if_neg c2]; rfl
    · rw [if_pos (by omega), if_neg c1]; rfl
  · rw [if_neg (show ¬ (2 : Int) = 1 by decide), if_pos rfl, if_neg (show ¬ (2 : Int) = 0 by decide), if_neg (show ¬ (2 : Int) = 1 by decide), if_pos (rfl : (2 : Int) = 2)]
    have h : strataref01_ReadSvarint.f s p = some (rsv s p) := by unfold strataref01_ReadSvarint.f; rw [if_pos (by omega)]
    rw [h]
    simp only [Option.bind_some, tellV]
    by_cases c : (rsv s p).2.2 = 0
    · rw [if_pos c, if_pos c]
    · rw [if_neg c, if_neg c]
  · rw [if_neg (show ¬ (3 : Int) = 1 by decide), if_neg (show ¬ (3 : Int) = 2 by decide), if_pos rfl, if_neg (show ¬ (3 : Int) = 0 by decide), if_neg (show ¬ (3 : Int) = 1 by decide), if_neg (show ¬ (3 : Int) = 2 by decide)]
    have h : strataref01_readText.f s p 4096 = some (rtext s p 4096) := by unfold strataref01_readText.f; rw [if_pos ⟨by omega, by decide, by decide⟩]
    rw [h]
    simp only [Option.bind_some, tellV]
    by_cases c : (rtext s p 4096).2.2 = 0
    · rw [if_pos c, if_pos c]
    · rw [if_neg c, if_neg c]
theorem rdC_le (s : ByteArray) (p k : Int) (hp : 0 ≤ p) (hps : p ≤ (s.size : Int)) (h : (rdC s p k).2.2 = 0) : (rdC s p k).2.1 ≤ (s.size : Int) := by
  have hg := ruv_good s p
  unfold rdC at h ⊢
  by_cases h0 : k = 0
  · rw [if_pos h0]; exact hps
  · rw [if_neg h0] at h ⊢
    by_cases h1 : k = 1
    · rw [if_pos h1] at h ⊢
      by_cases h2 : p < (s.size : Int)
      · rw [if_pos h2] at h ⊢
        by_cases h3 : bt s p ≤ 1
        · rw [if_pos h3]; show p + 1 ≤ _; omega
        · rw [if_neg h3] at h; exact absurd h (by simp)
      · rw [if_neg h2] at h; exact absurd h (by simp)
    · rw [if_neg h1] at h ⊢
      by_cases h2 : k = 2
      · rw [if_pos h2]
        show (rsv s p).2.1 ≤ _
        unfold rsv
        split <;> simp only <;> omega
      · rw [if_neg h2]
        show (rtext s p 4096).2.1 ≤ _
        unfold rtext
        split
        · split
          · exact hps
          · split
            · exact hps
            · simp only; omega
        · exact hps
theorem ref_l2 (s : ByteArray) (hs : s.size ≤ 140737488351232) (c : Nat) (hc : c ≤ 16) (ks : List Int) (hck : c ≤ ks.length) (hr : ∀ x ∈ ks, 0 ≤ x ∧ x ≤ 3) : ∀ (d j : Nat) (p : Int) (l : List S33), c = j + d → l.length = j → 0 ≤ p → p ≤ (s.size : Int) →
    strataref01_ReadRow.l2 (d + 1) s c ks l p j = some (cols s ((ks.take c).drop j) p l)
  | 0, j, p, l, h, hl, h0, h1 => by
    rw [strataref01_ReadRow.l2, if_neg (by omega), List.drop_of_length_le (by rw [List.length_take]; omega), cols]
    by_cases c1 : p < (s.size : Int)
    · rw [if_pos c1, if_pos c1]
    · rw [if_neg c1, if_neg c1]
  | d + 1, j, p, l, h, hl, h0, h1 => by
    have hjk : j < ks.length := by omega
    have hrd : rd ks (j : Int) = ks[j] := by simp [rd, hjk]
    have hxr := hr (ks[j]) (List.getElem_mem _)
    have hdr : (ks.take c).drop j = ks[j] :: (ks.take c).drop (j + 1) := by
      rw [List.drop_eq_getElem_cons (by rw [List.length_take]; omega), List.getElem_take]
    rw [strataref01_ReadRow.l2, if_pos (by omega), if_pos (by omega), if_pos (by omega), hrd, ref_col s hs p _ h0 h1 hxr, hdr, cols]
    simp only [Option.bind_some]
    unfold tellV
    by_cases c3 : (rdC s p ks[j]).2.2 = 0
    · rw [if_pos c3, if_pos c3]
      simp only
      rw [if_pos trivial, if_pos (by omega), w64 (n := (j : Int) + 1) (by omega) (by omega)]
      exact ref_l2 s hs c hc ks hck hr d (j + 1) _ _ (by omega) (by rw [List.length_append, List.length_singleton, hl]) (rdC_pos s p _ h0 c3) (rdC_le s p _ h0 h1 c3)
    · rw [if_neg c3, if_neg c3]
      simp only
      rw [if_neg c3]
theorem ref_l1 (s : ByteArray) (hs : s.size ≤ 140737488351232) (c n : Nat) (hc : c ≤ 16) (hn : 1 + (n : Int) ≤ (s.size : Int)) (ks : List Int) (hk : ks.length ≤ 100) (hck : c ≤ ks.length) (hr : ∀ x ∈ ks, 0 ≤ x ∧ x ≤ 3) : ∀ (d j : Nat), ks.length = j + d →
    strataref01_ReadRow.l1 (d + (c + 1) + 1) s c n ks j = some (if (ks.drop j).all (fun k => k == 0) = false then ([], 14) else cols s (ks.take c) (1 + (n : Int)) [])
  | 0, j, h => by
    rw [show 0 + (c + 1) + 1 = (c + 1) + 1 by omega, strataref01_ReadRow.l1, if_neg (by omega), List.drop_of_length_le (by omega), if_neg (by simp), w64 (n := 1 + (n : Int)) (by omega) (by omega)]
    have := ref_l2 s hs c hc ks hck hr c 0 (1 + (n : Int)) [] (by omega) rfl (by omega) hn
    rw [List.drop_zero] at this
    exact this
  | d + 1, j, h => by
    have hjk : j < ks.length := by omega
    have hrd : rd ks (j : Int) = ks[j] := by simp [rd, hjk]
    rw [show d + 1 + (c + 1) + 1 = (d + (c + 1) + 1) + 1 by omega, strataref01_ReadRow.l1, if_pos (by omega), if_pos (by omega), hrd, List.drop_eq_getElem_cons hjk]
    by_cases c1 : ks[j] = 0
    · rw [if_pos c1, w64 (n := (j : Int) + 1) (by omega) (by omega), List.all_cons, c1]
      have := ref_l1 s hs c n hc hn ks hk hck hr d (j + 1) (by omega)
      simpa using this
    · rw [if_neg c1, List.all_cons, if_pos (by simp [c1])]
theorem ref_quad (b : Int) (h : 0 ≤ b ∧ b ≤ 255) : ([Int.tmod (wrap64 b) 4, Int.tmod (wrap64 (Int.tdiv (wrap64 b) 4)) 4, Int.tmod (wrap64 (Int.tdiv (wrap64 b) 16)) 4, wrap64 (Int.tdiv (wrap64 b) 64)] : List Int) = quad b := by
  have e0 : wrap64 b = b := w64 (by omega) (by omega)
  rw [e0, Int.tdiv_eq_ediv_of_nonneg h.1, Int.tdiv_eq_ediv_of_nonneg h.1, Int.tdiv_eq_ediv_of_nonneg h.1, w64 (n := b / 4) (by omega) (by omega), w64 (n := b / 16) (by omega) (by omega), w64 (n := b / 64) (by omega) (by omega),
    Int.tmod_eq_emod_of_nonneg h.1, Int.tmod_eq_emod_of_nonneg (by omega : 0 ≤ b / 4), Int.tmod_eq_emod_of_nonneg (by omega : 0 ≤ b / 16)]
  rfl
theorem ref_l0 (s : ByteArray) (hs : s.size ≤ 140737488351232) (c n F : Nat) (hn : n ≤ 4) (hns : 1 + (n : Int) ≤ (s.size : Int)) : ∀ (d i : Nat), n = i + d →
    strataref01_ReadRow.l0 (d + 1 + F) s c n (kl s 1 i) i = strataref01_ReadRow.l1 F s c n (kl s 1 n) c
  | 0, i, h => by
    obtain rfl : n = i := by omega
    rw [show 0 + 1 + F = F + 1 by omega, strataref01_ReadRow.l0, if_neg (by omega)]
  | d + 1, i, h => by
    rw [show d + 1 + 1 + F = (d + 1 + F) + 1 by omega, strataref01_ReadRow.l0, if_pos (by omega), w64 (n := 1 + (i : Int)) (by omega) (by omega), if_pos (by omega), if_pos (by omega), ref_quad _ (bt_rng s _)]
    simp only [Option.bind_some]
    rw [if_pos (by rw [kl_len]; simp [quad]; omega), w64 (n := (i : Int) + 1) (by omega) (by omega)]
    exact ref_l0 s hs c n F hn hns d (i + 1) (by omega)
theorem ref_row (s : ByteArray) (hs : s.size ≤ 140737488351232) (k : Nat) (hk : 60 ≤ k) : strataref01_ReadRow.f k s = some (rrow s) := by
  have hb := bt_rng s 0
  unfold strataref01_ReadRow.f rrow
  by_cases c0 : 0 < (s.size : Int)
  · have hne : ¬ s.toList = ([] : List UInt8) := fun h => by
      rw [toList_data] at h
      have := size_list s
      rw [h] at this
      simp at this
      omega
    rw [if_neg hne, if_pos c0, if_neg (show ¬ ¬ 0 < (s.size : Int) from fun h => h c0), w64 (n := bt s 0) (by omega) (by omega), w64 (n := bt s 0 + 3) (by omega) (by omega), Int.tdiv_eq_ediv_of_nonneg (by omega), w64 (n := (bt s 0 + 3) / 4) (by omega) (by omega), w64 (n := 1 + (bt s 0 + 3) / 4) (by omega) (by omega)]
    by_cases c1 : bt s 0 > 16
    · rw [if_pos c1, if_pos c1]
    · rw [if_neg c1, if_neg c1]
      by_cases c2 : (s.size : Int) < 1 + (bt s 0 + 3) / 4
      · rw [if_pos c2, if_pos c2]
      · rw [if_neg c2, if_neg c2]
        obtain ⟨c, hc⟩ : ∃ c : Nat, bt s 0 = (c : Int) := ⟨(bt s 0).toNat, by omega⟩
        obtain ⟨n, hn⟩ : ∃ n : Nat, ((c : Int) + 3) / 4 = (n : Int) := ⟨(((c : Int) + 3) / 4).toNat, by omega⟩
        rw [hc, hn, Int.toNat_natCast, Int.toNat_natCast]
        rw [hc] at c1 c2
        rw [hn] at c2
        have h1 := ref_l1 s hs c n (by omega) (by omega) (kl s 1 n) (by rw [kl_len]; omega) (by rw [kl_len]; omega) (kl_rng s 1 n) (4 * n - c) c (by rw [kl_len]; omega)
        have h0 := ref_l0 s hs c n (4 * n - c + (c + 1) + 1) (by omega) (by omega) n 0 (by omega)
        rw [h1] at h0
        refine at_rounds (g := fun k => strataref01_ReadRow.l0 k s c n [] 0) (fun k => (strataref01_ReadRow.mono_l k).1 _ _ _ _ _) (by omega : n + 1 + (4 * n - c + (c + 1) + 1) ≤ k) h0
  · have hne : s.toList = ([] : List UInt8) := by
      rw [toList_data]
      exact List.eq_nil_of_length_eq_zero (by rw [size_list]; omega)
    rw [if_pos hne, if_pos c0]
theorem ref_key (s : ByteArray) (hs : s.size ≤ 140737488351232) (k : Nat) (hk : s.size + 60 ≤ k) : strataref01_ReadKey.f k s = some (krun s 17 0 []) := by
  refine at_rounds (g := fun k => strataref01_ReadKey.f k s) (fun k => strataref01_ReadKey.mono s k) (by omega : 17 + s.size + 40 ≤ k) ?_
  exact ref_key_l s hs 17 0 [] (by omega) (by simp) (by simp)
theorem krun_len (s : ByteArray) : ∀ (k : Nat) (p : Int) (l : List S33), l.length ≤ 16 → (krun s k p l).1.length ≤ 16
  | 0, p, l, h => by simp [krun]
  | k + 1, p, l, h => by
    simp only [krun]
    split
    · split
      · simp
      · split
        · exact krun_len s k _ _ (by rw [List.length_append, List.length_singleton]; omega)
        · simp
    · exact h
theorem cols_len (s : ByteArray) : ∀ (ks : List Int) (p : Int) (l : List S33), (cols s ks p l).1.length ≤ l.length + ks.length
  | [], p, l => by simp only [cols]; split <;> simp
  | k :: ks, p, l => by
    simp only [cols]
    split
    · have := cols_len s ks (rdC s p k).2.1 (l ++ [(rdC s p k).1])
      rw [List.length_append, List.length_singleton] at this
      rw [List.length_cons]
      omega
    · simp
theorem rrow_len (s : ByteArray) : (rrow s).1.length ≤ 100 := by
  have hb := bt_rng s 0
  unfold rrow
  split
  · simp
  · split
    · simp
    · split
      · simp
      · split
        · simp
        · refine Nat.le_trans (cols_len _ _ _ _) ?_
          rw [List.length_take, kl_len]
          simp
          omega
end Go.Proofs.YtbekgkikgcmmaaaDoor.HBitP
