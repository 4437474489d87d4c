/- Plain laws of commits: which may be, by the program and by the document, and the bytes that they are laid down as. -/
import Derived.Test.YtlgagjgfenmfeaaPRedx2
import Derived.Test.YtlgagjgfenmfeaaPRedx4
import Derived.Test.YtlgagjgfenmfeaaPRedx5
import Derived.Test.YtlgagjgfenmfeaaHBlob
import Derived.Test.YtlgagjgfenmfeaaHCore
set_option linter.unusedVariables false
set_option linter.unusedSimpArgs false
namespace Go.Proofs.Ytlgagjgfenmfeaa.HRedL
open Go.RowKit Go.Proofs.Ytlgagjgfenmfeaa.PRed Go.Proofs.Ytlgagjgfenmfeaa.HBase Go.Proofs.Ytlgagjgfenmfeaa.HBlob Go.Proofs.YtlgagjgfenmfeaaW.PrintWords Go.Proofs.YtlgagjgfenmfeaaW.PrintLast Go.Proofs.Ytlgagjgfenmfeaa.HCore

/-- May these writes stand behind a write of this key? -/
def okFrom : ByteArray → List S36 → Bool
  | _, [] => true
  | last, x :: r => Op.bytesLess last.toList x.f1.toList && (decide (x.f1.size ≤ 160) && ((if x.f0 = 1 then decide (x.f2.size ≤ 512) else if x.f0 = 2 then decide (x.f2.toList = []) else false) && okFrom x.f1 r))
/-- May the commit be? -/
def may (st : Int) (ws : List S36) : Bool := decide (1 ≤ st ∧ st ≤ 4611686018427387903 ∧ 1 ≤ ws.length ∧ ws.length ≤ 128) && okFrom (⟨#[]⟩ : ByteArray) ws
/-- A text with its length ahead. -/
def blobL (s : ByteArray) : List UInt8 := (blobOf s).1.data.toList
/-- A write's bytes. -/
def wrb (x : S36) : List UInt8 := UInt8.ofNat (x.f0 % 256).toNat :: (blobL x.f1 ++ (if x.f0 = 1 then blobL x.f2 else []))
def encl (ws : List S36) : List UInt8 := ws.flatMap wrb
/-- A commit's bytes. -/
def enc (st : Int) (ws : List S36) : List UInt8 := (uvb st.toNat).data.toList ++ (uvb ws.length).data.toList ++ encl ws

theorem rd_drop {x : List S36} {i : Nat} (h : i < x.length) : x.drop i = rd_T36 x (i : Int) :: x.drop (i + 1) := by
  rw [List.drop_eq_getElem_cons h]
  simp [rd_T36, List.getD_eq_getElem?_getD, List.getElem?_eq_getElem h]
theorem rd_get {x : List S36} {i : Nat} (h : i < x.length) : rd_T36 x (i : Int) = x[i] := by simp [rd_T36, List.getD_eq_getElem?_getD, List.getElem?_eq_getElem h]

theorem sound_loop (ws : List S36) (hn : ws.length < 9223372036854775807) (d : Nat) : ∀ (i k : Nat) (last : ByteArray), i + d = ws.length → 2 * d < k →
    redo_sound.l0 k last ws (ws.length : Int) (i : Int) = some (okFrom last (ws.drop i)) := by
  induction d with
  | zero =>
    intro i k last hi hk
    obtain ⟨k, rfl⟩ : ∃ m, k = m + 1 := ⟨k - 1, by omega⟩
    simp only [redo_sound.l0]
    rw [if_neg (by omega), List.drop_of_length_le (by omega)]
    rfl
  | succ d ih =>
    intro i k last hi hk
    obtain ⟨k, rfl⟩ : ∃ m, k = m + 2 := ⟨k - 2, by omega⟩
    have hw : wrap64 ((i : Int) + 1) = ((i + 1 : Nat) : Int) := by rw [w64 (by omega) (by omega)]; omega
    have IH := ih (i + 1) k (rd_T36 ws (i : Int)).f1 (by omega) (by omega)
    simp only [redo_sound.l0, redo_sound.j2]
    rw [if_pos (by omega), if_pos (by omega), if_pos (by omega), rd_drop (show i < ws.length by omega), hw, IH]
    generalize rd_T36 ws (i : Int) = x
    simp only [okFrom]
    generalize okFrom x.f1 (ws.drop (i + 1)) = R
    by_cases h1 : Op.bytesLess last.toList x.f1.toList = true
    · rw [if_pos h1, h1]
      by_cases h2 : (x.f1.size : Int) > 160
      · rw [decide_eq_true h2, if_pos rfl, decide_eq_false (by omega)]; rfl
      · rw [decide_eq_false h2, if_neg (by decide), decide_eq_true (show x.f1.size ≤ 160 by omega)]
        by_cases h3 : x.f0 = 1
        · rw [if_pos h3, if_pos h3]
          by_cases h4 : (x.f2.size : Int) > 512
          · rw [if_pos h4, decide_eq_false (by omega)]; rfl
          · rw [if_neg h4, decide_eq_true (show x.f2.size ≤ 512 by omega)]; rfl
        · rw [if_neg h3, if_neg h3]
          by_cases h5 : x.f0 = 2
          · rw [if_pos h5, if_pos h5]
            by_cases h6 : x.f2.toList = []
            · rw [if_pos h6, decide_eq_true h6]; rfl
            · rw [if_neg h6, decide_eq_false h6]; rfl
          · rw [if_neg h5, if_neg h5]; rfl
    · rw [if_neg h1, if_pos trivial]
      simp only [Bool.not_eq_true] at h1
      rw [h1]; rfl
theorem sound_is (st : Int) (ws : List S36) (hn : ws.length < 9223372036854775807) (k : Nat) (hk : 2 * ws.length + 1 < k) : redo_sound.f k st ws = some (may st ws) := by
  obtain ⟨k, rfl⟩ : ∃ m, k = m + 1 := ⟨k - 1, by omega⟩
  have h0 := sound_loop ws hn ws.length 0 k (⟨#[]⟩ : ByteArray) (by omega) (by omega)
  rw [List.drop_zero] at h0
  unfold redo_sound.f may
  simp only [redo_sound.j0]
  by_cases h1 : st < 1
  · rw [if_pos h1, if_pos trivial, decide_eq_false (by omega)]; rfl
  rw [if_neg h1]
  by_cases h2 : st > 4611686018427387903
  · rw [if_pos h2, if_pos trivial, decide_eq_false (by omega)]; rfl
  rw [if_neg h2]
  by_cases h3 : (ws.length : Int) < 1
  · rw [if_pos h3, if_pos trivial, decide_eq_false (by omega)]; rfl
  rw [if_neg h3]
  by_cases h4 : (ws.length : Int) > 128
  · rw [decide_eq_true h4, if_pos rfl, decide_eq_false (by omega)]; rfl
  rw [decide_eq_false h4, if_neg (by decide), decide_eq_true (show 1 ≤ st ∧ st ≤ 4611686018427387903 ∧ 1 ≤ ws.length ∧ ws.length ≤ 128 by omega)]
  exact h0

/-- The key ahead of place i. -/
def prev (ws : List S36) : Nat → ByteArray
  | 0 => (⟨#[]⟩ : ByteArray)
  | i + 1 => (rd_T36 ws (i : Int)).f1
theorem bl_some {l : List UInt8} (h : l ≠ []) : Op.bytesLess [] l = true := by
  cases l with
  | nil => exact absurd rfl h
  | cons a l => rfl
theorem may_loop (ws : List S36) (st : Int) (hn : ws.length < 9223372036854775807) (d : Nat) : ∀ (i k : Nat), i + d = ws.length → 3 * d < k →
    strataref11_MayBe.l0 k (i : Int) st ws = some (okFrom (prev ws i) (ws.drop i)) := by
  induction d with
  | zero =>
    intro i k hi hk
    obtain ⟨k, rfl⟩ : ∃ m, k = m + 1 := ⟨k - 1, by omega⟩
    simp only [strataref11_MayBe.l0]
    rw [if_neg (by omega), List.drop_of_length_le (by omega)]
    rfl
  | succ d ih =>
    intro i k hi hk
    obtain ⟨k, rfl⟩ : ∃ m, k = m + 3 := ⟨k - 3, by omega⟩
    have hw : wrap64 ((i : Int) + 1) = ((i + 1 : Nat) : Int) := by rw [w64 (by omega) (by omega)]; omega
    have IH := ih (i + 1) k (by omega) (by omega)
    have ep : prev ws (i + 1) = (rd_T36 ws (i : Int)).f1 := rfl
    rw [ep] at IH
    -- what follows the test on the key
    have tail : ∀ b : Bool, strataref11_MayBe.j2 (k + 2) (i : Int) b st ws (rd_T36 ws (i : Int)).f0 (rd_T36 ws (i : Int)).f1 (rd_T36 ws (i : Int)).f2 =
        some (!b && ((if (rd_T36 ws (i : Int)).f0 = 1 then decide ((rd_T36 ws (i : Int)).f2.size ≤ 512) else if (rd_T36 ws (i : Int)).f0 = 2 then decide ((rd_T36 ws (i : Int)).f2.toList = []) else false) && okFrom (rd_T36 ws (i : Int)).f1 (ws.drop (i + 1)))) := by
      intro b
      simp only [strataref11_MayBe.j2, strataref11_MayBe.j3]
      rw [hw, IH]
      generalize rd_T36 ws (i : Int) = x
      generalize okFrom x.f1 (ws.drop (i + 1)) = R
      cases b with
      | true => rfl
      | false =>
        rw [if_neg (by decide)]
        by_cases h3 : x.f0 = 1
        · rw [if_pos h3, if_pos h3, if_neg (by decide)]
          by_cases h4 : (x.f2.size : Int) > 512
          · rw [if_pos h4, decide_eq_false (by omega)]; rfl
          · rw [if_neg h4, if_neg (by omega), decide_eq_true (show x.f2.size ≤ 512 by omega)]; rfl
        · rw [if_neg h3, if_neg h3]
          by_cases h5 : x.f0 = 2
          · rw [if_pos h5, show (x.f0 != 2) = false by rw [h5]; rfl, if_neg (by decide), if_pos h5]
            by_cases h6 : x.f2.toList = []
            · have hz : x.f2.size = 0 := by rw [← size_list, ← toList_data, h6]; rfl
              rw [if_neg (by omega), if_pos h6, decide_eq_true h6]; rfl
            · rw [decide_eq_false h6]
              by_cases h4 : (x.f2.size : Int) > 512
              · rw [if_pos h4]; rfl
              · rw [if_neg h4, if_neg h6]; rfl
          · rw [show (x.f0 != 2) = true by simpa using h5, if_pos rfl]; simp [h5]
    simp only [strataref11_MayBe.l0]
    simp only [tail]
    rw [if_pos (by omega), if_pos (by omega), rd_drop (show i < ws.length by omega)]
    simp only [okFrom]
    have hsz : (rd_T36 ws (i : Int)).f1.size = (rd_T36 ws (i : Int)).f1.toList.length := by rw [toList_data, size_list]
    generalize ((if (rd_T36 ws (i : Int)).f0 = 1 then decide ((rd_T36 ws (i : Int)).f2.size ≤ 512) else if (rd_T36 ws (i : Int)).f0 = 2 then decide ((rd_T36 ws (i : Int)).f2.toList = []) else false) && okFrom (rd_T36 ws (i : Int)).f1 (ws.drop (i + 1))) = T
    by_cases h1 : ((rd_T36 ws (i : Int)).f1.size : Int) < 1
    · have e : (rd_T36 ws (i : Int)).f1.toList = [] := List.length_eq_zero_iff.1 (by omega)
      rw [if_pos h1, e, bl_nil]; rfl
    rw [if_neg h1]
    by_cases h2 : ((rd_T36 ws (i : Int)).f1.size : Int) > 160
    · rw [if_pos h2, decide_eq_false (show ¬ (rd_T36 ws (i : Int)).f1.size ≤ 160 by omega)]
      simp
    rw [if_neg h2, decide_eq_true (show (rd_T36 ws (i : Int)).f1.size ≤ 160 by omega)]
    cases i with
    | zero =>
      rw [if_neg (by decide)]
      have e : Op.bytesLess (prev ws 0).toList (rd_T36 ws ((0 : Nat) : Int)).f1.toList = true := by
        have e0 : (prev ws 0).toList = [] := by rw [toList_data]; rfl
        rw [e0]
        exact bl_some (fun h => by rw [h, List.length_nil] at hsz; omega)
      rw [e]
      simp
    | succ i =>
      have hw2 : wrap64 (((i + 1 : Nat) : Int) - 1) = (i : Int) := by rw [w64 (by omega) (by omega)]; omega
      rw [if_pos (by omega), hw2, if_pos (by omega), if_pos (by omega)]
      have e : prev ws (i + 1) = (rd_T36 ws (i : Int)).f1 := rfl
      rw [e]
      simp
theorem may_is (st : Int) (ws : List S36) (hn : ws.length < 9223372036854775807) (k : Nat) (hk : 3 * ws.length + 1 < k) : strataref11_MayBe.f k st ws = some (may st ws) := by
  obtain ⟨k, rfl⟩ : ∃ m, k = m + 1 := ⟨k - 1, by omega⟩
  have h0 := may_loop ws st hn ws.length 0 k (by omega) (by omega)
  rw [List.drop_zero] at h0
  unfold strataref11_MayBe.f may
  simp only [strataref11_MayBe.j0]
  by_cases h1 : st < 1
  · rw [if_pos h1, if_pos trivial, decide_eq_false (by omega)]; rfl
  rw [if_neg h1]
  by_cases h2 : st > 4611686018427387903
  · rw [if_pos h2, if_pos trivial, decide_eq_false (by omega)]; rfl
  rw [if_neg h2]
  by_cases h3 : (ws.length : Int) < 1
  · rw [if_pos h3, if_pos trivial, decide_eq_false (by omega)]; rfl
  rw [if_neg h3]
  by_cases h4 : (ws.length : Int) > 128
  · rw [decide_eq_true h4, if_pos rfl, decide_eq_false (by omega)]; rfl
  rw [decide_eq_false h4, if_neg (by decide), decide_eq_true (show 1 ≤ st ∧ st ≤ 4611686018427387903 ∧ 1 ≤ ws.length ∧ ws.length ≤ 128 by omega)]
  exact h0

/-- What may be is small. -/
def Small (x : S36) : Prop := x.f1.size ≤ 160 ∧ (x.f0 = 1 → x.f2.size ≤ 512)
theorem ok_small : ∀ (ws : List S36) (last : ByteArray), okFrom last ws = true → ∀ x ∈ ws, Small x
  | [], _, _, x, hx => by cases hx
  | y :: r, last, h, x, hx => by
    simp only [okFrom, Bool.and_eq_true, decide_eq_true_eq] at h
    obtain ⟨_, h2, h3, h4⟩ := h
    rcases List.mem_cons.1 hx with rfl | hx
    · refine ⟨h2, fun h1 => ?_⟩
      rw [if_pos h1] at h3
      simpa using h3
    · exact ok_small r _ h4 x hx
theorem blob_len (s : ByteArray) : (blobL s).length ≤ s.size + 10 := by
  unfold blobL blobOf
  split
  · show ([] : List UInt8).length ≤ _
    simp
  · have := uvb_size s.size
    rw [append_list, List.length_append, size_list, size_list]
    omega
theorem wrb_len (x : S36) (h : Small x) : (wrb x).length ≤ 700 := by
  unfold wrb
  have h1 := blob_len x.f1
  have h2 := blob_len x.f2
  rw [List.length_cons, List.length_append]
  by_cases g : x.f0 = 1
  · rw [if_pos g]
    have := h.2 g
    have := h.1
    omega
  · rw [if_neg g]
    have := h.1
    simp only [List.length_nil]
    omega
theorem encl_len : ∀ (ws : List S36), (∀ x ∈ ws, Small x) → (encl ws).length ≤ 700 * ws.length
  | [], _ => by simp [encl]
  | x :: r, h => by
    have ih := encl_len r (fun y hy => h y (List.mem_cons_of_mem _ hy))
    have := wrb_len x (h x List.mem_cons_self)
    unfold encl at ih ⊢
    rw [List.flatMap_cons, List.length_append, List.length_cons]
    omega

theorem enc_loop (ws : List S36) (st : Int) (hs : ∀ x ∈ ws, Small x) (hn : ws.length ≤ 128) (d : Nat) : ∀ (i k : Nat) (acc : ByteArray), i + d = ws.length → d < k → acc.size ≤ 100 + 700 * i →
    strataref11_EncodeCommit.l0 k acc (i : Int) st ws = some (⟨(acc.data.toList ++ encl (ws.drop i)).toArray⟩, 0) := by
  induction d with
  | zero =>
    intro i k acc hi hk ha
    obtain ⟨k, rfl⟩ : ∃ m, k = m + 1 := ⟨k - 1, by omega⟩
    simp only [strataref11_EncodeCommit.l0]
    rw [if_neg (by omega), List.drop_of_length_le (by omega)]
    have e : acc.data.toList ++ encl [] = acc.data.toList := by simp [encl]
    rw [e]
  | succ d ih =>
    intro i k acc hi hk ha
    obtain ⟨k, rfl⟩ : ∃ m, k = m + 1 := ⟨k - 1, by omega⟩
    have hlt : i < ws.length := by omega
    have hw : wrap64 ((i : Int) + 1) = ((i + 1 : Nat) : Int) := by rw [w64 (by omega) (by omega)]; omega
    have hx : Small (rd_T36 ws (i : Int)) := by rw [rd_get hlt]; exact hs _ (List.getElem_mem hlt)
    have hwl := wrb_len _ hx
    simp only [strataref11_EncodeCommit.l0]
    rw [if_pos (by omega), if_pos (by omega), rd_drop hlt]
    generalize rd_T36 ws (i : Int) = x at hx hwl
    have hb1 : strataref01_Blob.f x.f1 = some (blobOf x.f1) := rfl
    have hb2 : strataref01_Blob.f x.f2 = some (blobOf x.f2) := rfl
    have l1 : (blobOf x.f1).1.size = (blobL x.f1).length := by unfold blobL; rw [size_list]
    have l2 : (blobOf x.f2).1.size = (blobL x.f2).length := by unfold blobL; rw [size_list]
    have k1 := blob_len x.f1
    have k2 := blob_len x.f2
    have z1 : (strOfNums [x.f0 % 256]).size = 1 := by rw [strOfNums_len]; rfl
    have hx1 := hx.1
    rw [hb1]
    simp only [Option.bind_some]
    rw [if_pos (by omega), if_pos (by rw [app_size]; omega), hw]
    by_cases g : x.f0 = 1
    · have hx2 := hx.2 g
      have hsz : ((((acc ++ strOfNums [x.f0 % 256]) ++ (blobOf x.f1).1) ++ (blobOf x.f2).1)).size ≤ 100 + 700 * (i + 1) := by rw [app_size, app_size, app_size]; omega
      rw [if_pos g, hb2]
      simp only [Option.bind_some]
      rw [if_pos (by rw [app_size, app_size]; omega), ih (i + 1) k _ (by omega) (by omega) hsz]
      have e : ((((acc ++ strOfNums [x.f0 % 256]) ++ (blobOf x.f1).1) ++ (blobOf x.f2).1)).data.toList ++ encl (ws.drop (i + 1)) = acc.data.toList ++ encl (x :: ws.drop (i + 1)) := by
        rw [append_list, append_list, append_list, strOfNums_list]
        unfold encl
        rw [List.flatMap_cons]
        unfold wrb
        rw [if_pos g]
        simp [blobL]
      rw [e]
    · have hsz : ((acc ++ strOfNums [x.f0 % 256]) ++ (blobOf x.f1).1).size ≤ 100 + 700 * (i + 1) := by rw [app_size, app_size]; omega
      rw [if_neg g, ih (i + 1) k _ (by omega) (by omega) hsz]
      have e : ((acc ++ strOfNums [x.f0 % 256]) ++ (blobOf x.f1).1).data.toList ++ encl (ws.drop (i + 1)) = acc.data.toList ++ encl (x :: ws.drop (i + 1)) := by
        rw [append_list, append_list, strOfNums_list]
        unfold encl
        rw [List.flatMap_cons]
        unfold wrb
        rw [if_neg g]
        simp [blobL]
      rw [e]
/-- What both Encodes come to. -/
def encF (st : Int) (ws : List S36) : ByteArray × Int := if may st ws = true then (⟨(enc st ws).toArray⟩, 0) else ((⟨#[]⟩ : ByteArray), 112)
theorem ref_enc (st : Int) (ws : List S36) (hn : ws.length < 9223372036854775807) (k : Nat) (hk : 3 * ws.length + 2 < k) : strataref11_EncodeCommit.f k st ws = some (encF st ws) := by
  unfold strataref11_EncodeCommit.f encF
  rw [may_is st ws hn k (by omega)]
  simp only [Option.bind_some]
  by_cases hm : may st ws = true
  · rw [if_pos hm, if_pos hm]
    unfold may at hm
    simp only [Bool.and_eq_true, decide_eq_true_eq] at hm
    obtain ⟨⟨h1, h2, h3, h4⟩, h5⟩ := hm
    have hu1 : strataref01_Uvarint.f st = some (uvb st.toNat) := by unfold strataref01_Uvarint.f; rw [if_pos ⟨by omega, by omega⟩]
    have hu2 : strataref01_Uvarint.f (IntKind.u64.wrap (ws.length : Int)) = some (uvb ws.length) := by
      rw [wu64 (by omega) (by omega)]
      unfold strataref01_Uvarint.f
      rw [if_pos ⟨by omega, by omega⟩, Int.toNat_natCast]
    have b1 := uvb_size st.toNat
    have b2 := uvb_size ws.length
    rw [hu1, hu2]
    simp only [Option.bind_some]
    have e := enc_loop ws st (ok_small ws _ h5) h4 ws.length 0 k (uvb st.toNat ++ uvb ws.length) (by omega) (by omega) (by rw [app_size]; omega)
    rw [List.drop_zero, append_list] at e
    rw [if_pos (by omega)]
    exact e
  · rw [if_neg hm, if_neg hm]
end Go.Proofs.Ytlgagjgfenmfeaa.HRedL
