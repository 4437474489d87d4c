/- BitsApart returns true: words of timestamps stand in the order of time, below Infinity, and that below every transaction's word; each is told for what it is; a link gives back its slot and mark. No condition. -/
import Derived.Test.YtnanepgcaefhcaaPBitsApartx2
import Derived.Test.YtnanepgcaefhcaaHCore
set_option linter.unusedVariables false
set_option linter.unusedSimpArgs false
namespace Go.Proofs.Ytnanepgcaefhcaa.Pure
open Go.RowKit Go.Proofs.Ytnanepgcaefhcaa.PBitsApart Go.Proofs.YtnanepgcaefhcaaW.PrintWords Go.Proofs.YtnanepgcaefhcaaW.PrintLast Go.Proofs.Ytnanepgcaefhcaa.HCore

theorem BitsApart : stratalaw01_BitsApart.Pure := by
  intro a0 b0 s m ha hb hs
  have ha := rng_u64 ha
  have hb := rng_u64 hb
  have hs := rng_i64 hs
  refine ⟨5, ?_⟩
  unfold stratalaw01_BitsApart.f
  rw [tmod_nn ha.1, tmod_nn hb.1]
  obtain ⟨a, ea⟩ : ∃ a, a0 % 4611686018427387904 = a := ⟨_, rfl⟩
  obtain ⟨b, eb⟩ : ∃ b, b0 % 4611686018427387904 = b := ⟨_, rfl⟩
  have ra : 0 ≤ a ∧ a < 4611686018427387904 := by omega
  have rb : 0 ≤ b ∧ b < 4611686018427387904 := by omega
  rw [ea, eb]
  clear ea eb ha hb
  have h1 : ∀ t : Int, 0 ≤ t ∧ t < 4611686018427387904 → bits_TimeWord.f t = some (t, 0) := fun t h => by unfold bits_TimeWord.f; rw [if_neg (by omega)]
  have h2 : ∀ t : Int, 0 ≤ t ∧ t < 4611686018427387904 → bits_TxnWord.f t = some (9223372036854775808 + t, 0) := fun t h => by
    unfold bits_TxnWord.f; rw [if_neg (by omega), or_2_63 h.1 (by omega)]
  have h3 : bits_Split.f a = some (1, a) := by
    unfold bits_Split.f
    rw [and_2_62 ra.1 (by omega), and_2_63 ra.1 (by omega), if_neg (by omega), if_pos (by omega), if_pos (by omega)]
  have h4 : bits_Split.f (9223372036854775808 + a) = some (2, a) := by
    unfold bits_Split.f
    rw [and_2_62 (by omega) (by omega), and_2_63 (by omega) (by omega), andNot_2_63 (by omega) (by omega), if_neg (by omega), if_pos (by omega), if_neg (by omega)]
    congr 2; omega
  have h5 : bits_Split.f 9223372036854775807 = some (3, 0) := by unfold bits_Split.f; rw [if_pos rfl]
  have e1 : (9223372036854775808 + a == 9223372036854775808 + b) = (a == b) := by
    rw [Bool.eq_iff_iff]; simp only [beq_iff_eq]; omega
  rw [h1 a ra, h1 b rb, h2 a ra, h2 b rb]
  simp only [Option.bind_some, stratalaw01_num.f, if_true, bne_self_eq_false, stratalaw01_BitsApart.j0]
  rw [if_neg (by decide), if_neg (by decide), if_neg (by decide), e1]
  simp only [bne_self_eq_false]
  rw [if_neg (by decide), if_neg (by omega)]
  have e2 : decide (9223372036854775808 + a ≤ 9223372036854775807) = false := decide_eq_false (by omega)
  rw [e2]
  simp only [stratalaw01_BitsApart.j1, h3, h4, h5, Option.bind_some, if_true, bne_self_eq_false]
  rw [if_neg (by decide)]
  simp only [stratalaw01_BitsApart.j2]
  rw [if_neg (by decide)]
  by_cases g : s < 0
  · rw [if_pos g]; simp only [stratalaw01_BitsApart.j3]; rfl
  · rw [if_neg g]
    by_cases g2 : s > 2147483647
    · rw [decide_eq_true g2]; simp only [stratalaw01_BitsApart.j3]; rfl
    · rw [decide_eq_false g2]
      simp only [stratalaw01_BitsApart.j3]
      rw [if_neg (by decide)]
      have hl : bits_Link.f 1 s m = some (s * 2 + (if m = true then 1 else 0), 0) := by
        unfold bits_Link.f
        rw [if_neg g, decide_eq_false g2]
        simp only [bits_Link.j0]
        rw [if_neg (by decide), wu64 (n := s) (by omega) (by omega), wu64 (n := s * 2) (by omega) (by omega), or_1 (by omega) (by omega) (by omega)]
        cases m <;> simp
      have ho : bits_OfLink.f (s * 2 + (if m = true then 1 else 0)) = some (s, m, 0) := by
        unfold bits_OfLink.f
        cases m
        · rw [and_1 (by simp; omega) (by simp; omega)]
          simp only [Bool.false_eq_true, if_false, Int.add_zero]
          rw [if_neg (by omega), w64 (by omega) (by omega), show s * 2 / 2 = s by omega, show s * 2 % 2 = 0 by omega]
          rfl
        · rw [and_1 (by simp; omega) (by simp; omega)]
          simp only [if_true]
          rw [if_neg (by omega), w64 (by omega) (by omega), show (s * 2 + 1) / 2 = s by omega, show (s * 2 + 1) % 2 = 1 by omega]
          rfl
      rw [hl]
      simp only [Option.bind_some]
      rw [ho]
      simp [stratalaw01_num.f]

end Go.Proofs.Ytnanepgcaefhcaa.Pure
