/- BitsWords returns true for all words, slots and marks: every word and link is laid down and taken apart as the document says. No condition. -/
import Derived.Test.YtnanepgcaefhcaaPBitsWordsx2
import Derived.Test.YtnanepgcaefhcaaHCore
set_option linter.unusedVariables false
set_option linter.unusedSimpArgs false
namespace Go.Proofs.Ytnanepgcaefhcaa.Pure
open Go.RowKit Go.Proofs.Ytnanepgcaefhcaa.PBitsWords Go.Proofs.YtnanepgcaefhcaaW.PrintWords Go.Proofs.YtnanepgcaefhcaaW.PrintLast Go.Proofs.Ytnanepgcaefhcaa.HCore

theorem txn_eq (t : Int) (h : 0 ≤ t ∧ t ≤ 18446744073709551615) : bits_TxnWord.f t = strataref01_TxnWord.f t := by
  unfold bits_TxnWord.f strataref01_TxnWord.f
  by_cases g : t > 4611686018427387903
  · rw [if_pos g, if_pos g]
  · rw [if_neg g, if_neg g, or_2_63 h.1 (by omega), wu64 (by omega) (by omega)]

theorem split_eq (w : Int) (h : 0 ≤ w ∧ w ≤ 18446744073709551615) : bits_Split.f w = strataref01_Split.f w := by
  unfold bits_Split.f strataref01_Split.f
  rw [and_2_62 h.1 h.2, and_2_63 h.1 h.2, andNot_2_63 h.1 h.2]
  by_cases g : w ≤ 4611686018427387903
  · rw [if_neg (by omega), if_pos (by omega), if_pos (by omega), if_pos g]
  · rw [if_neg g]
    by_cases g2 : w = 9223372036854775807
    · rw [if_pos g2, if_pos g2]
    · rw [if_neg g2, if_neg g2]
      by_cases g3 : w ≥ 9223372036854775808
      · rw [if_pos g3, wu64 (by omega) (by omega)]
        by_cases g4 : w - 9223372036854775808 ≤ 4611686018427387903
        · rw [if_pos (by omega), if_neg (by omega), if_pos g4]
          congr 2; omega
        · rw [if_neg (by omega), if_neg g4]
      · rw [if_neg (by omega), if_neg g3]

theorem link_eq (k : Nat) (s : Int) (m : Bool) (h : -9223372036854775808 ≤ s ∧ s ≤ 9223372036854775807) : bits_Link.f (k + 1) s m = strataref01_Link.f (k + 1) s m := by
  unfold bits_Link.f strataref01_Link.f
  simp only [bits_Link.j0, strataref01_Link.j0]
  by_cases g : s < 0
  · rw [if_pos g, if_pos g]
    rfl
  · rw [if_neg g, if_neg g]
    by_cases g2 : s > 2147483647
    · rw [decide_eq_true g2]
      rfl
    · rw [decide_eq_false g2, wu64 (n := s) (by omega) (by omega), wu64 (n := s * 2) (by omega) (by omega), wu64 (n := 2 * s) (by omega) (by omega), wu64 (n := 2 * s + 1) (by omega) (by omega), or_1 (by omega) (by omega) (by omega)]
      simp only [Bool.false_eq_true, if_false]
      rw [show s * 2 = 2 * s by omega]

theorem oflink_eq (w : Int) (h : 0 ≤ w ∧ w ≤ 18446744073709551615) : bits_OfLink.f w = strataref01_OfLink.f w := by
  unfold bits_OfLink.f strataref01_OfLink.f
  rw [and_1 h.1 h.2, tdiv_nn h.1, tmod_nn h.1, wu64 (n := w / 2) (by omega) (by omega)]
  have e : (w % 2 != 0) = (w % 2 == 1) := by
    have : w % 2 = 0 ∨ w % 2 = 1 := by omega
    rcases this with e | e <;> rw [e] <;> rfl
  rw [e]

theorem BitsWords : stratalaw01_BitsWords.Pure := by
  intro t s m w ht hs hw
  have ht := rng_u64 ht
  have hs := rng_i64 hs
  have hw := rng_u64 hw
  obtain ⟨⟨a1, a2⟩, h1⟩ : ∃ r, strataref01_TimeWord.f t = some r := by unfold strataref01_TimeWord.f; split <;> exact ⟨_, rfl⟩
  obtain ⟨⟨b1, b2⟩, h2⟩ : ∃ r, strataref01_TxnWord.f t = some r := by unfold strataref01_TxnWord.f; split <;> exact ⟨_, rfl⟩
  obtain ⟨⟨c1, c2⟩, h3⟩ : ∃ r, strataref01_Split.f w = some r := by
    unfold strataref01_Split.f
    repeat' split
    all_goals exact ⟨_, rfl⟩
  obtain ⟨⟨d1, d2⟩, h4⟩ : ∃ r, strataref01_Link.f 1 s m = some r := by
    unfold strataref01_Link.f
    simp only [strataref01_Link.j0]
    repeat' split
    all_goals exact ⟨_, rfl⟩
  obtain ⟨⟨e1, e2, e3⟩, h5⟩ : ∃ r, strataref01_OfLink.f w = some r := by
    unfold strataref01_OfLink.f
    repeat' split
    all_goals exact ⟨_, rfl⟩
  have g1 : bits_TimeWord.f t = some (a1, a2) := h1
  have g2 := (txn_eq t ht).trans h2
  have g3 := (split_eq w hw).trans h3
  have g4 := (link_eq 0 s m hs).trans h4
  have g5 := (oflink_eq w hw).trans h5
  refine ⟨4, ?_⟩
  unfold stratalaw01_BitsWords.f
  simp only [h1, g1, Option.bind_some, stratalaw01_num.f, bne_self_eq_false, if_true, stratalaw01_BitsWords.j0, stratalaw01_BitsWords.j1, stratalaw01_BitsWords.j2, stratalaw01_BitsWords.j3, h2, g2, h3, g3, h4, g4, h5, g5, beq_self_eq_true]
  rfl

end Go.Proofs.Ytnanepgcaefhcaa.Pure
