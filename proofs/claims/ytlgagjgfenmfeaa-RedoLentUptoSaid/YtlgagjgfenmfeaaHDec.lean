/- What every text is as a commit, and as a frame's body: plain functions, and the document's own functions come to them. -/
import Derived.Test.YtlgagjgfenmfeaaHRedL
set_option linter.unusedVariables false
set_option linter.unusedSimpArgs false
namespace Go.Proofs.Ytlgagjgfenmfeaa.HDec
open Go.RowKit Go.Proofs.Ytlgagjgfenmfeaa.PRed Go.Proofs.Ytlgagjgfenmfeaa.HBase Go.Proofs.Ytlgagjgfenmfeaa.HRedL Go.Proofs.YtlgagjgfenmfeaaW.PrintWords Go.Proofs.YtlgagjgfenmfeaaW.PrintLast Go.Proofs.YtlgagjgfenmfeaaW.PrintMore Go.Proofs.Ytlgagjgfenmfeaa.HCore

theorem rtext_good (s : ByteArray) (p m : Int) : ((rtext s p m).2.2 = 0 ∧ 0 ≤ p ∧ p < (rtext s p m).2.1 ∧ (rtext s p m).2.1 ≤ s.size ∧ (rtext s p m).1.size ≤ s.size) ∨ (rtext s p m).2.2 ≠ 0 := by
  unfold rtext
  rcases ruv_good s p with ⟨h0, h1, h2, h3, h4, h5, h6⟩ | ⟨h0, h1⟩
  · rw [if_pos h0]
    by_cases g1 : (ruv s p).1 > m
    · rw [if_pos g1]; right; simp
    · rw [if_neg g1]
      by_cases g2 : (ruv s p).1 > s.size - (ruv s p).2.1
      · rw [if_pos g2]; right; simp
      · rw [if_neg g2]; left
        refine ⟨rfl, h1, by simp only; omega, by simp only; omega, ?_⟩
        simp only
        rw [← size_list, extract_list, List.length_take, List.length_drop, size_list]
        omega
  · rw [if_neg h0]; right; exact h0
/-- The write that begins at a place, and the place behind it. -/
def rdW (s : ByteArray) (p : Int) : Option (S36 × Int) :=
  if p < (s.size : Int) then
    if (rtext s (p + 1) 1048576).2.2 = 0 then
      if bt s p = 1 then
        if (rtext s (rtext s (p + 1) 1048576).2.1 1048576).2.2 = 0 then
          some (⟨bt s p, (rtext s (p + 1) 1048576).1, (rtext s (rtext s (p + 1) 1048576).2.1 1048576).1⟩, (rtext s (rtext s (p + 1) 1048576).2.1 1048576).2.1)
        else none
      else some (⟨bt s p, (rtext s (p + 1) 1048576).1, (⟨#[]⟩ : ByteArray)⟩, (rtext s (p + 1) 1048576).2.1)
    else none
  else none
theorem rdW_good {s : ByteArray} {p : Int} (hp : 0 ≤ p) {x : S36} {q : Int} (h : rdW s p = some (x, q)) : p < q ∧ q ≤ s.size := by
  unfold rdW at h
  rcases rtext_good s (p + 1) 1048576 with ⟨a0, a1, a2, a3, _⟩ | a0
  · by_cases h1 : p < (s.size : Int)
    · rw [if_pos h1, if_pos a0] at h
      by_cases h2 : bt s p = 1
      · rw [if_pos h2] at h
        rcases rtext_good s (rtext s (p + 1) 1048576).2.1 1048576 with ⟨b0, b1, b2, b3, _⟩ | b0
        · rw [if_pos b0] at h
          obtain ⟨_, rfl⟩ := Prod.mk.inj (Option.some.inj h)
          omega
        · rw [if_neg b0] at h; cases h
      · rw [if_neg h2] at h
        obtain ⟨_, rfl⟩ := Prod.mk.inj (Option.some.inj h)
        omega
    · rw [if_neg h1] at h; cases h
  · by_cases h1 : p < (s.size : Int)
    · rw [if_pos h1, if_neg a0] at h; cases h
    · rw [if_neg h1] at h; cases h
/-- So many writes from a place on, behind those that were read. -/
def run (s : ByteArray) : Nat → Int → List S36 → Option (List S36 × Int)
  | 0, p, l => some (l, p)
  | d + 1, p, l => (rdW s p).bind fun r => run s d r.2 (l ++ [r.1])
/-- What stands behind the writes. -/
def fin (s : ByteArray) (st : Int) (r : Option (List S36 × Int)) : Option (Int × List S36) := r.bind fun r => if may st r.1 = true ∧ r.2 = (s.size : Int) then some (st, r.1) else none
/-- The commit that a text is. -/
def decC (s : ByteArray) : Option (Int × List S36) :=
  if (ruv s 0).2.2 = 0 then
    if (ruv s (ruv s 0).2.1).2.2 = 0 ∧ (ruv s (ruv s 0).2.1).1 ≤ 128 then
      fin s (ruv s 0).1 (run s (ruv s (ruv s 0).2.1).1.toNat (ruv s (ruv s 0).2.1).2.1 [])
    else none
  else none
/-- .. and what is answered. -/
def told (r : Option (Int × List S36)) : Int × List S36 × Int := match r with | some r => (r.1, r.2, 0) | none => (0, [], 112)

theorem ref_rw (s : ByteArray) (p : Int) (hp : 0 ≤ p) (hs : s.size ≤ 4611686018427387904) : strataref11_readWrite.f s p = some (match rdW s p with | some r => (r.1.f0, r.1.f1, r.1.f2, r.2) | none => (0, (⟨#[]⟩ : ByteArray), (⟨#[]⟩ : ByteArray), -1)) := by
  unfold strataref11_readWrite.f rdW
  by_cases h1 : p < (s.size : Int)
  · have hb := bt_rng s p
    have e1 : strataref01_ReadBlob.f s (p + 1) = some (rtext s (p + 1) 1048576) := by unfold strataref01_ReadBlob.f; rw [if_pos hs]
    rw [if_neg (by omega), if_pos hp, if_pos h1, if_pos h1, w64 (n := p + 1) (by omega) (by omega), w64 (n := bt s p) (by omega) (by omega), e1, Option.bind_some]
    by_cases h2 : (rtext s (p + 1) 1048576).2.2 = 0
    · have e2 : strataref01_ReadBlob.f s (rtext s (p + 1) 1048576).2.1 = some (rtext s (rtext s (p + 1) 1048576).2.1 1048576) := by unfold strataref01_ReadBlob.f; rw [if_pos hs]
      rw [if_pos h2, if_pos h2, e2, Option.bind_some]
      by_cases h3 : bt s p = 1
      · rw [if_pos h3, if_pos h3]
        by_cases h4 : (rtext s (rtext s (p + 1) 1048576).2.1 1048576).2.2 = 0
        · rw [if_pos h4, if_pos h4]
        · rw [if_neg h4, if_neg h4]
      · rw [if_neg h3, if_neg h3]
    · rw [if_neg h2, if_neg h2]
  · rw [if_pos (by omega), if_neg h1]
theorem ref_loop (s : ByteArray) (hs : s.size ≤ 4611686018427387904) (st : Int) (n : Nat) (hn : n ≤ 128) : ∀ (d i k : Nat) (p : Int) (l : List S36), i + d = n → l.length = i → 0 ≤ p → d + 400 < k →
    strataref11_DecodeCommit.l0 k s p (n : Int) (i : Int) st l = some (told (fin s st (run s d p l))) := by
  intro d
  induction d with
  | zero =>
    intro i k p l hi hl hp hk
    obtain ⟨k, rfl⟩ : ∃ m, k = m + 1 := ⟨k - 1, by omega⟩
    simp only [strataref11_DecodeCommit.l0, run, fin]
    rw [if_neg (by rw [w64 (by omega) (by omega)]; omega), may_is st l (by omega) k (by omega), Option.bind_some, Option.bind_some]
    by_cases h1 : may st l = true
    · rw [if_pos h1]
      by_cases h2 : p = (s.size : Int)
      · rw [if_pos h2, if_pos ⟨h1, h2⟩]; rfl
      · rw [if_neg h2, if_neg (fun h => h2 h.2)]; rfl
    · rw [if_neg h1, if_neg (fun h => h1 h.1)]; rfl
  | succ d ih =>
    intro i k p l hi hl hp hk
    obtain ⟨k, rfl⟩ : ∃ m, k = m + 1 := ⟨k - 1, by omega⟩
    simp only [strataref11_DecodeCommit.l0, run]
    rw [if_pos (by rw [w64 (by omega) (by omega)]; omega), ref_rw s p hp hs, Option.bind_some]
    cases hr : rdW s p with
    | none => simp only; rw [if_pos (by decide)]; rfl
    | some r =>
      obtain ⟨x, q⟩ := r
      have hg := rdW_good hp hr
      simp only
      rw [if_neg (by omega), if_pos (by omega), w64 (by omega) (by omega), show ((i : Int) + 1) = ((i + 1 : Nat) : Int) by omega]
      rw [ih (i + 1) k q _ (by omega) (by simp; omega) (by omega) (by omega)]
      rfl
theorem ref_dec (s : ByteArray) (hs : s.size ≤ 4611686018427387904) (k : Nat) (hk : 600 < k) : strataref11_DecodeCommit.f k s = some (told (decC s)) := by
  unfold strataref11_DecodeCommit.f decC
  have e1 : ∀ p, strataref01_ReadUvarint.f s p = some (ruv s p) := fun p => by unfold strataref01_ReadUvarint.f; rw [if_pos hs]
  rw [e1, Option.bind_some]
  by_cases h1 : (ruv s 0).2.2 = 0
  · rw [if_pos h1, if_pos h1, e1, Option.bind_some]
    obtain ⟨k, rfl⟩ : ∃ m, k = m + 1 := ⟨k - 1, by omega⟩
    by_cases h2 : (ruv s (ruv s 0).2.1).2.2 = 0
    · rw [if_pos h2]
      simp only [strataref11_DecodeCommit.j0]
      by_cases h3 : (ruv s (ruv s 0).2.1).1 ≤ 128
      · rw [decide_eq_false (by omega), if_neg (by decide), if_pos ⟨h2, h3⟩]
        rcases ruv_good s (ruv s 0).2.1 with ⟨g0, g1, g2, g3, g4, g5, g6⟩ | ⟨g0, _⟩
        · have := ref_loop s hs (ruv s 0).1 (ruv s (ruv s 0).2.1).1.toNat (by omega) (ruv s (ruv s 0).2.1).1.toNat 0 k (ruv s (ruv s 0).2.1).2.1 [] (by omega) rfl (by omega) (by omega)
          rw [Int.toNat_of_nonneg g2] at this
          exact this
        · exact absurd h2 g0
      · rw [decide_eq_true (by omega), if_pos rfl, if_neg (fun h => h3 h.2)]; rfl
    · rw [if_neg h2, if_neg (fun h => h2 h.1)]
      simp only [strataref11_DecodeCommit.j0]
      rw [if_pos trivial]; rfl
  · rw [if_neg h1, if_neg h1]; rfl

/-- The commits of a frame's body, from a place on, behind those that were read. -/
def frun (s : ByteArray) : Nat → Int → List S25 → Option (List S25)
  | 0, _, _ => none
  | k + 1, p, l => if p < (s.size : Int) then (if (rtext s p 1048576).2.2 = 0 then (decC (rtext s p 1048576).1).bind fun r => frun s k (rtext s p 1048576).2.1 (l ++ [⟨r.1, r.2⟩]) else none) else some l
def frmC (s : ByteArray) : Option (List S25) := (frun s (s.size + 1) 0 []).bind fun l => if l = [] then none else some l
def toldF (r : Option (List S25)) : List S25 × Int := match r with | some l => (l, 0) | none => ([], 112)
theorem ref_frun (s : ByteArray) (hs : s.size ≤ 1000000000000) : ∀ (d k : Nat) (p : Int) (l : List S25), 0 ≤ p → p ≤ s.size → (s.size : Int) < p + d → l.length ≤ p → d + 601 < k →
    strataref11_FrameCommits.l0 k s l p = some (toldF ((frun s d p l).bind fun l => if l = [] then none else some l)) := by
  intro d
  induction d with
  | zero =>
    intro k p l hp hps hd hl hk
    omega
  | succ d ih =>
    intro k p l hp hps hd hl hk
    obtain ⟨k, rfl⟩ : ∃ m, k = m + 1 := ⟨k - 1, by omega⟩
    simp only [strataref11_FrameCommits.l0, frun]
    by_cases h1 : p < (s.size : Int)
    · rw [if_pos h1, if_pos h1]
      have e1 : strataref01_ReadBlob.f s p = some (rtext s p 1048576) := by unfold strataref01_ReadBlob.f; rw [if_pos (by omega)]
      rw [e1, Option.bind_some]
      rcases rtext_good s p 1048576 with ⟨a0, a1, a2, a3, a4⟩ | a0
      · rw [if_pos a0, if_pos a0, ref_dec _ (by omega) k (by omega), Option.bind_some]
        cases hc : decC (rtext s p 1048576).1 with
        | none =>
          rw [if_neg (show ¬ (told none).2.2 = 0 by decide)]; rfl
        | some r =>
          simp only [told, Option.bind_some]
          rw [if_pos trivial, if_pos (show l.length < 4398046511104 by omega)]
          exact ih k _ _ (by omega) (by omega) (by omega) (by simp; omega) (by omega)
      · rw [if_neg a0, if_neg a0]; rfl
    · rw [if_neg h1, if_neg h1, Option.bind_some]
      by_cases h2 : l = []
      · subst h2; rw [if_pos (by rfl), if_pos rfl]; rfl
      · rw [if_neg h2, if_neg (fun h => h2 (List.length_eq_zero_iff.1 (by omega)))]; rfl
theorem ref_frm (s : ByteArray) (hs : s.size ≤ 1000000000000) (k : Nat) (hk : s.size + 700 < k) : strataref11_FrameCommits.f k s = some (toldF (frmC s)) := by
  unfold strataref11_FrameCommits.f frmC
  exact ref_frun s hs (s.size + 1) k 0 [] (by omega) (by omega) (by omega) (by simp) (by omega)
end Go.Proofs.Ytlgagjgfenmfeaa.HDec
