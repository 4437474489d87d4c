/- A frame read back, cut short, and with one byte turned, in plain words (r2's door seat). -/
import Derived.Test.YtdepngppnbobdaaDoorHFr
import Derived.Test.YtdepngppnbobdaaDoorPFmx1
set_option linter.unusedVariables false
set_option linter.unusedSimpArgs false
namespace Go.Proofs.YtdepngppnbobdaaDoor.HOne
open Go.RowKit Go.Proofs.YtdepngppnbobdaaDoor.HFr Go.Proofs.YtdepngppnbobdaaDoor.HSum Go.Proofs.YtdepngppnbobdaaDoorW.PrintWords Go.Proofs.YtdepngppnbobdaaDoorW.PrintLast Go.Proofs.YtdepngppnbobdaaDoorW.PrintMore Go.Proofs.YtdepngppnbobdaaDoor.HCore Go.Proofs.YtdepngppnbobdaaDoor.HCrc Go.Proofs.YtdepngppnbobdaaDoor.PFm
open Go.Proofs.YtdepngppnbobdaaDoor.HBaseL (fval_4 fval_8)

theorem u8_eq {a b : UInt8} (h : a.toNat = b.toNat) : a = b := UInt8.toNat_inj.1 h
/-- One byte turned turns the sum. -/
theorem ext_one (c : Nat) (hc : c < 2 ^ 32) (pre post : List UInt8) (x y : UInt8) (h : ext c (pre ++ x :: post) = ext c (pre ++ y :: post)) : x = y := by
  unfold ext at h
  have h1 := xor_cancel_left h
  rw [crc_append, crc_append] at h1
  have hr : crc (4294967295 ^^^ c) pre < 2 ^ 32 := crc_lt pre (Nat.xor_lt_two_pow (by decide) hc)
  generalize crc (4294967295 ^^^ c) pre = r at h1 hr
  have hx : x.toNat < 2 ^ 32 := Nat.lt_of_lt_of_le x.toNat_lt (by decide)
  have hy : y.toNat < 2 ^ 32 := Nat.lt_of_lt_of_le y.toNat_lt (by decide)
  have h2 : crc (dn8 (r ^^^ x.toNat)) post = crc (dn8 (r ^^^ y.toNat)) post := h1
  have h3 := crc_inj post (dn8_lt (Nat.xor_lt_two_pow hr hx)) (dn8_lt (Nat.xor_lt_two_pow hr hy)) h2
  have h4 := dn8_inj (Nat.xor_lt_two_pow hr hx) (Nat.xor_lt_two_pow hr hy) h3
  exact u8_eq (xor_cancel_left h4)
theorem ck_set (s t : ByteArray) (i : Nat) (y : UInt8) (hi : i < s.data.toList.length) (ht : t.data.toList = s.data.toList.set i y) (h : ck t = ck s) : s.data.toList[i] = y := by
  unfold ck at h
  have h1 : ext 0 t.data.toList = ext 0 s.data.toList := by omega
  rw [ht] at h1
  have e1 : s.data.toList.set i y = s.data.toList.take i ++ y :: s.data.toList.drop (i + 1) := by rw [List.set_eq_take_append_cons_drop, if_pos hi]
  have e2 : s.data.toList = s.data.toList.take i ++ s.data.toList[i] :: s.data.toList.drop (i + 1) := by
    rw [List.getElem_cons_drop, List.take_append_drop]
  rw [e1] at h1
  have h2 : ext 0 (s.data.toList.take i ++ y :: s.data.toList.drop (i + 1)) = ext 0 (s.data.toList.take i ++ s.data.toList[i] :: s.data.toList.drop (i + 1)) := by rw [← e2]; exact h1
  exact (ext_one 0 (by decide) _ _ _ _ h2).symm
theorem bt_set (s t : ByteArray) (i : Nat) (y : UInt8) (ht : t.data.toList = s.data.toList.set i y) (j : Nat) (hj : j ≠ i) : bt t (j : Int) = bt s (j : Int) := by
  rw [bt_list, bt_list, ht, List.getD_eq_getElem?_getD, List.getD_eq_getElem?_getD, List.getElem?_set_ne (fun h => hj h.symm)]
theorem bt_at_set (s t : ByteArray) (i : Nat) (y : UInt8) (hi : i < s.data.toList.length) (ht : t.data.toList = s.data.toList.set i y) : bt t (i : Int) = (y.toNat : Int) := by
  rw [bt_list, ht, List.getD_eq_getElem?_getD, List.getElem?_set_self hi]
  rfl
theorem bt_get (s : ByteArray) (i : Nat) (hi : i < s.data.toList.length) : bt s (i : Int) = ((s.data.toList[i]).toNat : Int) := by
  rw [bt_list, List.getD_eq_getElem?_getD, List.getElem?_eq_getElem hi]
  rfl
theorem fval4_at (s : ByteArray) (p : Nat) : fval s (p : Int) 4 = bt s ((p : Nat) : Int) + bt s ((p + 1 : Nat) : Int) * 256 + bt s ((p + 2 : Nat) : Int) * 65536 + bt s ((p + 3 : Nat) : Int) * 16777216 := by
  rw [fval_4]
  rfl
theorem fval4_set (s t : ByteArray) (i : Nat) (y : UInt8) (ht : t.data.toList = s.data.toList.set i y) (p : Nat) (h : i < p ∨ p + 4 ≤ i) : fval t (p : Int) 4 = fval s (p : Int) 4 := by
  rw [fval4_at, fval4_at, bt_set s t i y ht p (by omega), bt_set s t i y ht (p + 1) (by omega), bt_set s t i y ht (p + 2) (by omega), bt_set s t i y ht (p + 3) (by omega)]
/-- What a frame's bytes read as. -/
structure Fr (h b : ByteArray) (kd lsn : Int) : Prop where
  size : h.size = 24 + b.size
  magic : (h.extract 0 2).toList = ([83, 70] : List UInt8)
  kind : bt h 2 = kd
  zero : bt h 3 = 0
  len : fval h 4 4 = (b.size : Int)
  num : fval h 8 8 = lsn
  bsum : fval h 16 4 = ck b
  hsum : fval h 20 4 = ck (h.extract 0 20)
  body : ∀ m, m = 24 + b.size → h.extract 24 m = b
theorem fval_back (h t : ByteArray) (n : Nat) (v : Int) (hv : 0 ≤ v ∧ v < 256 ^ n) : fval ((h ++ fxb n v) ++ t) h.size n = v := by
  have h1 := rfix_back h t n v hv
  have h2 : rfix ((h ++ fxb n v) ++ t) h.size n = (fval ((h ++ fxb n v) ++ t) h.size n, (h.size : Int) + n, 0) := rfix_ok (by rw [size_app, size_app, fxb_len]; omega) (by rw [size_app, size_app, fxb_len]; omega)
  exact (Prod.mk.inj (h2.symm.trans h1)).1
theorem fr_of (kd lsn : Int) (b : ByteArray) (hm : fitB kd lsn b.size = true) : Fr ⟨(frl kd lsn b).toArray⟩ b kd lsn := by
  obtain ⟨r1, r2, r3, r4, r5, r6⟩ := fit_rng _ _ _ hm
  have hl : (⟨(frl kd lsn b).toArray⟩ : ByteArray).data.toList = frl kd lsn b := rfl
  generalize (⟨(frl kd lsn b).toArray⟩ : ByteArray) = s at hl ⊢
  have c1 := ck_rng b
  have c2 := ck_rng ⟨(hdl kd lsn b).toArray⟩
  have hlen := hdl_len kd lsn b
  have hm2 : (b.size : Int) % 4294967296 = (b.size : Int) := by omega
  have z : s.size = 24 + b.size := by
    rw [← size_list, hl]
    unfold frl
    rw [List.length_append, List.length_append, hlen, size_list, size_list, fxb_len]
  have at4 : ∀ (A t : ByteArray) (p : Nat) (v : Int), 0 ≤ v → v ≤ 4294967295 → A.size = p → s.data.toList = A.data.toList ++ (fxb 4 v).data.toList ++ t.data.toList → fval s (p : Int) 4 = v := by
    intro A t p v v0 v1 hA e
    have : s = (A ++ fxb 4 v) ++ t := ba_list (by rw [append_list, append_list, e])
    rw [this, ← hA]
    exact fval_back A t 4 v ⟨v0, by omega⟩
  have e20 : (s.extract 0 20) = ⟨(hdl kd lsn b).toArray⟩ := by
    apply ba_list
    rw [ext0, hl]
    show (frl kd lsn b).take 20 = hdl kd lsn b
    unfold frl
    rw [List.append_assoc, List.take_append_of_le_length (by omega), List.take_of_length_le (by omega)]
  obtain ⟨q, hq⟩ : ∃ q, ck ⟨(hdl kd lsn b).toArray⟩ = q := ⟨_, rfl⟩
  rw [hq] at c2
  have hl2 : s.data.toList = hdl kd lsn b ++ (fxb 4 q).data.toList ++ b.data.toList := by rw [hl]; unfold frl; rw [hq]
  refine ⟨z, ?_, ?_, ?_, ?_, ?_, ?_, ?_, ?_⟩
  · have : (s.extract 0 2).data.toList = [83, 70] := by
      rw [ext0, hl]
      unfold frl hdl
      simp
    have e : (s.extract 0 2) = ⟨#[83, 70]⟩ := ba_list this
    rw [e, toList_data]
  · have := bt_list s 2
    rw [hl] at this
    unfold frl hdl at this
    simp at this
    omega
  · have := bt_list s 3
    rw [hl] at this
    unfold frl hdl at this
    simp at this
    exact this
  · exact at4 ⟨#[83, 70, UInt8.ofNat (kd % 256).toNat, 0]⟩ ((fxb 8 lsn) ++ (fxb 4 (ck b)) ++ (fxb 4 q) ++ b) 4 b.size (by omega) (by omega) rfl (by
      rw [hl2]
      unfold hdl
      rw [hm2]
      simp [append_list])
  · have : s = ((⟨#[83, 70, UInt8.ofNat (kd % 256).toNat, 0]⟩ ++ fxb 4 (b.size : Int)) ++ fxb 8 lsn) ++ ((fxb 4 (ck b)) ++ (fxb 4 q) ++ b) := ba_list (by
      rw [hl2]
      unfold hdl
      rw [hm2]
      simp [append_list])
    rw [this]
    have zz : ((⟨#[83, 70, UInt8.ofNat (kd % 256).toNat, 0]⟩ : ByteArray) ++ fxb 4 (b.size : Int)).size = 8 := by rw [ByteArray.size_append, fxb_len]; rfl
    have := fval_back (⟨#[83, 70, UInt8.ofNat (kd % 256).toNat, 0]⟩ ++ fxb 4 (b.size : Int)) ((fxb 4 (ck b)) ++ (fxb 4 q) ++ b) 8 lsn ⟨by omega, by omega⟩
    rw [zz] at this
    exact this
  · exact at4 (⟨#[83, 70, UInt8.ofNat (kd % 256).toNat, 0]⟩ ++ fxb 4 (b.size : Int) ++ fxb 8 lsn) ((fxb 4 q) ++ b) 16 (ck b) c1.1 c1.2 (by rw [ByteArray.size_append, ByteArray.size_append, fxb_len, fxb_len]; rfl) (by
      rw [hl2]
      unfold hdl
      rw [hm2]
      simp [append_list])
  · rw [e20]
    rw [hq]
    exact at4 ⟨(hdl kd lsn b).toArray⟩ b 20 q c2.1 c2.2 (by rw [← size_list]; exact hlen) hl2
  · intro m hm
    apply ba_list
    rw [extract_list, hl]
    have hd : (frl kd lsn b).drop 24 = b.data.toList := by
      unfold frl
      rw [List.drop_append, List.drop_of_length_le (by rw [List.length_append, hlen, size_list, fxb_len]; omega), List.length_append, hlen, size_list, fxb_len]
      simp
    rw [hd, List.take_of_length_le (by rw [size_list]; omega)]

theorem tail_of (a s : ByteArray) : (a ++ s).extract a.size (a ++ s).size = s := by
  apply ba_list
  rw [extract_list, append_list, size_app, List.drop_append_of_le_length (by rw [size_list]; omega), List.drop_of_length_le (by rw [size_list]; omega), List.nil_append, List.take_of_length_le (by rw [size_list]; omega)]
theorem dec_tail (a s : ByteArray) (hs : 24 ≤ s.size) : decF (a ++ s) a.size = decB s a.size := by
  unfold decF
  rw [if_neg (by rw [size_app]; omega), Int.toNat_natCast]
  unfold decG
  rw [tail_of]
theorem dec_short (a s : ByteArray) (hs : s.size < 24) : decF (a ++ s) a.size = (0, 0, (⟨#[]⟩ : ByteArray), (a.size : Int), 1) := by
  unfold decF
  rw [if_pos (by rw [size_app]; omega)]
/-- A frame is read back wherever it stands. -/
theorem back {h b : ByteArray} {kd lsn : Int} (F : Fr h b kd lsn) (hm : fitB kd lsn b.size = true) (n : Nat) : decB h n = (kd, lsn, b, (n : Int) + 24 + b.size, 0) := by
  unfold decB
  rw [F.kind, F.zero, F.num, F.len, F.bsum, F.body _ (by omega), F.size, if_pos F.magic, if_pos F.hsum, if_pos ⟨rfl, hm⟩, if_neg (by omega), if_pos rfl]
/-- Cut short behind its head, it is torn. -/
theorem torn {h b : ByteArray} {kd lsn : Int} (F : Fr h b kd lsn) (hm : fitB kd lsn b.size = true) (n m : Nat) (h1 : 24 ≤ m) (h2 : m < h.size) : decB (h.extract 0 m) n = (0, 0, (⟨#[]⟩ : ByteArray), (n : Int), 1) := by
  have z : (h.extract 0 m).size = m := ext_size0 h m (by omega)
  have b2 := bt_take h m 2 (by omega)
  have b3 := bt_take h m 3 (by omega)
  have f4 := fval4_take h m 4 (by omega)
  have f20 := fval4_take h m 20 (by omega)
  have f8 := fval8_take h m 8 (by omega)
  simp only [Int.cast_ofNat_Int] at b2 b3 f4 f20 f8
  have hz := F.size
  unfold decB
  rw [take_take h 2 m (by omega), take_take h 20 m (by omega), b2, b3, f4, f20, f8, F.kind, F.zero, F.num, F.len, z, if_pos F.magic, if_pos F.hsum, if_pos ⟨rfl, hm⟩, if_pos (by omega)]
theorem cut_short (a : ByteArray) {h b : ByteArray} {kd lsn : Int} (F : Fr h b kd lsn) (hm : fitB kd lsn b.size = true) (m : Nat) (h2 : m < h.size) : decF (a ++ h.extract 0 m) a.size = (0, 0, (⟨#[]⟩ : ByteArray), (a.size : Int), 1) := by
  have z : (h.extract 0 m).size = m := ext_size0 h m (by omega)
  by_cases h1 : 24 ≤ m
  · rw [dec_tail a _ (by omega), torn F hm a.size m h1 h2]
  · rw [dec_short a _ (by omega)]
/-- With one byte turned, no frame is read. -/
theorem turned {h b t : ByteArray} {kd lsn : Int} (F : Fr h b kd lsn) (i : Nat) (y : UInt8) (hi : i < h.data.toList.length) (ht : t.data.toList = h.data.toList.set i y) (hy : h.data.toList[i] ≠ y) (n : Nat) :
    (decB t n).2.2.2.2 ≠ 0 ∧ (decB t n).2.2.2.1 = (n : Int) := by
  have hz := F.size
  have hl : h.data.toList.length = 24 + b.size := by rw [size_list]; exact hz
  have tz : t.size = h.size := by rw [← size_list, ht, List.length_set, size_list]
  have key : ¬ (fval t 20 4 = ck (t.extract 0 20)) ∨ (24 ≤ i ∧ fval t 4 4 = (b.size : Int) ∧ ¬ (fval t 16 4 = ck (t.extract 24 (24 + fval t 4 4).toNat))) := by
    by_cases c1 : i < 20
    · left
      have f20 := fval4_set h t i y ht 20 (by omega)
      simp only [Int.cast_ofNat_Int] at f20
      rw [f20, F.hsum]
      intro e
      have hx : (t.extract 0 20).data.toList = (h.extract 0 20).data.toList.set i y := by rw [ext0, ext0, ht, List.take_set]
      have hlen : i < (h.extract 0 20).data.toList.length := by rw [ext0, List.length_take]; omega
      have := ck_set (h.extract 0 20) (t.extract 0 20) i y hlen hx e.symm
      apply hy
      rw [← this]
      simp only [ext0, List.getElem_take]
    by_cases c2 : i < 24
    · left
      have hx : (t.extract 0 20) = (h.extract 0 20) := ba_list (by rw [ext0, ext0, ht, List.take_set_of_le (by omega)])
      rw [hx, ← F.hsum]
      intro e
      have e1 : fval t 20 4 = bt t 20 + bt t 21 * 256 + bt t 22 * 65536 + bt t 23 * 16777216 := fval4_at t 20
      have e2 : fval h 20 4 = bt h 20 + bt h 21 * 256 + bt h 22 * 65536 + bt h 23 * 16777216 := fval4_at h 20
      rw [e1, e2] at e
      have hs := bt_set h t i y ht
      have hat := bt_at_set h t i y hi ht
      have hget := bt_get h i hi
      have hne : (h.data.toList[i]).toNat ≠ y.toNat := fun q => hy (u8_eq q)
      have r : i = 20 ∨ i = 21 ∨ i = 22 ∨ i = 23 := by omega
      have s0 : ∀ j, j ≠ i → bt t (j : Int) = bt h (j : Int) := hs
      rcases r with rfl | rfl | rfl | rfl
      · have g21 : bt t 21 = bt h 21 := s0 21 (by decide)
        have g22 : bt t 22 = bt h 22 := s0 22 (by decide)
        have g23 : bt t 23 = bt h 23 := s0 23 (by decide)
        have ga : bt t 20 = (y.toNat : Int) := hat
        have gb : bt h 20 = ((h.data.toList[20]).toNat : Int) := hget
        generalize (h.data.toList[20]).toNat = u at gb hne
        generalize y.toNat = v at ga hne
        clear hat hget e1 e2 hs s0
        omega
      · have g20 : bt t 20 = bt h 20 := s0 20 (by decide)
        have g22 : bt t 22 = bt h 22 := s0 22 (by decide)
        have g23 : bt t 23 = bt h 23 := s0 23 (by decide)
        have ga : bt t 21 = (y.toNat : Int) := hat
        have gb : bt h 21 = ((h.data.toList[21]).toNat : Int) := hget
        generalize (h.data.toList[21]).toNat = u at gb hne
        generalize y.toNat = v at ga hne
        clear hat hget e1 e2 hs s0
        omega
      · have g20 : bt t 20 = bt h 20 := s0 20 (by decide)
        have g21 : bt t 21 = bt h 21 := s0 21 (by decide)
        have g23 : bt t 23 = bt h 23 := s0 23 (by decide)
        have ga : bt t 22 = (y.toNat : Int) := hat
        have gb : bt h 22 = ((h.data.toList[22]).toNat : Int) := hget
        generalize (h.data.toList[22]).toNat = u at gb hne
        generalize y.toNat = v at ga hne
        clear hat hget e1 e2 hs s0
        omega
      · have g20 : bt t 20 = bt h 20 := s0 20 (by decide)
        have g21 : bt t 21 = bt h 21 := s0 21 (by decide)
        have g22 : bt t 22 = bt h 22 := s0 22 (by decide)
        have ga : bt t 23 = (y.toNat : Int) := hat
        have gb : bt h 23 = ((h.data.toList[23]).toNat : Int) := hget
        generalize (h.data.toList[23]).toNat = u at gb hne
        generalize y.toNat = v at ga hne
        clear hat hget e1 e2 hs s0
        omega
    · right
      have f4 := fval4_set h t i y ht 4 (by omega)
      have f16 := fval4_set h t i y ht 16 (by omega)
      simp only [Int.cast_ofNat_Int] at f4 f16
      rw [F.len] at f4
      refine ⟨by omega, f4, ?_⟩
      rw [f16, F.bsum, f4]
      intro e
      have hb := F.body (24 + b.size) rfl
      have hm : (24 + (b.size : Int)).toNat = 24 + b.size := by omega
      rw [hm] at e
      have hbl : b.data.toList = h.data.toList.drop 24 := by
        rw [← hb, extract_list, List.take_of_length_le (by rw [List.length_drop]; omega)]
      have hx : (t.extract 24 (24 + b.size)).data.toList = b.data.toList.set (i - 24) y := by
        rw [extract_list, List.take_of_length_le (by rw [List.length_drop, ht, List.length_set]; omega), ht, List.drop_set, if_neg (by omega), hbl]
      have hlen : i - 24 < b.data.toList.length := by rw [size_list]; omega
      have := ck_set b (t.extract 24 (24 + b.size)) (i - 24) y hlen hx e.symm
      apply hy
      rw [← this]
      have h3 : b.data.toList[i - 24]? = h.data.toList[i]? := by rw [hbl, List.getElem?_drop, show 24 + (i - 24) = i by omega]
      rw [List.getElem?_eq_getElem hlen, List.getElem?_eq_getElem hi] at h3
      exact (Option.some.inj h3).symm
  unfold decB
  split
  · split
    · split
      · split
        · exact ⟨by simp, rfl⟩
        · split
          · rename_i g1 g2 g3 g4 g5
            rcases key with k1 | ⟨_, _, k2⟩
            · exact absurd g2 k1
            · exact absurd g5 k2
          · exact ⟨by simp, rfl⟩
      · exact ⟨by simp, rfl⟩
    · exact ⟨by simp, rfl⟩
  · exact ⟨by simp, rfl⟩
theorem turned_at (a : ByteArray) {h b t : ByteArray} {kd lsn : Int} (F : Fr h b kd lsn) (i : Nat) (y : UInt8) (hi : i < h.data.toList.length) (ht : t.data.toList = h.data.toList.set i y) (hy : h.data.toList[i] ≠ y) :
    (decF (a ++ t) a.size).2.2.2.2 ≠ 0 ∧ (decF (a ++ t) a.size).2.2.2.1 = (a.size : Int) := by
  have tz : t.size = h.size := by rw [← size_list, ht, List.length_set, size_list]
  rw [dec_tail a t (by have := F.size; omega)]
  exact turned F i y hi ht hy a.size

theorem bad_of (s : ByteArray) (m : Nat) (hm : m < s.size) (x Y : Int) (hx0 : x ≠ 0) (hx : 0 ≤ x ∧ x ≤ 255) (hY : Y = (((bt s (m : Int)).toNat ^^^ x.toNat : Nat) : Int)) (yl : List Int) (hyl : yl = [Y]) :
    ∃ y : UInt8, (s.extract 0 m ++ strOfNums yl ++ s.extract (m + 1) s.size).data.toList = s.data.toList.set m y ∧ ∀ h : m < s.data.toList.length, s.data.toList[m] ≠ y := by
  have hl : m < s.data.toList.length := by rw [size_list]; exact hm
  refine ⟨UInt8.ofNat Y.toNat, ?_, fun h e => ?_⟩
  · rw [append_list, append_list, ext0, strOfNums_list, extract_list, hyl, List.set_eq_take_append_cons_drop, if_pos hl]
    have hz := size_list s
    generalize s.data.toList = l at hz hl ⊢
    simp
    exact List.take_of_length_le (by rw [List.length_drop]; omega)
  · have hb := bt_get s m h
    have hu := (s.data.toList[m]).toNat_lt
    have e1 : (s.data.toList[m]).toNat = (UInt8.ofNat Y.toNat).toNat := congrArg UInt8.toNat e
    rw [UInt8.toNat_ofNat'] at e1
    generalize (s.data.toList[m]).toNat = u at hb hu e1
    rw [hb, Int.toNat_natCast] at hY
    obtain ⟨v, hv⟩ : ∃ v, x.toNat = v := ⟨_, rfl⟩
    rw [hv] at hY
    have hv0 : v ≠ 0 := by omega
    have hv1 : v < 2 ^ 8 := by omega
    have hlt : u ^^^ v < 2 ^ 8 := Nat.xor_lt_two_pow (by simpa using hu) hv1
    obtain ⟨q, hq⟩ : ∃ q, u ^^^ v = q := ⟨_, rfl⟩
    rw [hq] at hY hlt
    have e2 : u = q := by omega
    have e3 : u ^^^ v = u ^^^ 0 := by rw [hq, Nat.xor_zero, e2]
    exact hv0 (xor_cancel_left e3)

/-- numbered, framed: what they give may be a frame. -/
def nmb (a : Int) : Int := if a < 1 then 1 else if a > 4611686018427387903 then 1 else a
theorem nmb_is (a : Int) : stratalaw11_numbered.f a = some (nmb a) := by
  unfold stratalaw11_numbered.f nmb
  split
  · rfl
  · split <;> rfl
theorem nmb_rng (a : Int) : 1 ≤ nmb a ∧ nmb a ≤ 4611686018427387903 := by
  unfold nmb
  split
  · omega
  · split <;> omega
theorem fit_of {k l n : Int} (hl : 1 ≤ l ∧ l ≤ 4611686018427387903) (h : (k = 1 ∧ 1 ≤ n ∧ n ≤ 131072) ∨ (k = 2 ∧ n = 8) ∨ (k = 3 ∧ n = 0)) : fitB k l n = true := by
  unfold fitB PFr.redo_fits.f
  rw [if_neg (by omega), decide_eq_false (by omega)]
  simp only [PFr.redo_fits.j0]
  rcases h with ⟨rfl, h1, h2⟩ | ⟨rfl, rfl⟩ | ⟨rfl, rfl⟩
  · simp [h1, h2]
  · simp
  · simp
theorem pad (d : Nat) : ∀ (k0 : Int) (s : ByteArray), s.size + d ≥ 8 → s.size ≤ 140737488355328 → ∃ b, stratalaw11_framed.l0 (d + 1) k0 s = some (k0, b) ∧ b.size = 8 := by
  induction d with
  | zero =>
    intro k0 s h hb
    exact ⟨s.extract 0 8, by rw [stratalaw11_framed.l0, if_neg (by omega), if_pos (by decide), if_pos (by omega)], ext_size0 s 8 (by omega)⟩
  | succ d ih =>
    intro k0 s h hb
    by_cases h8 : (s.size : Int) < 8
    · obtain ⟨b, e, z⟩ := ih k0 (s ++ ⟨#[109]⟩) (by rw [size_app]; show s.size + 1 + d ≥ 8; omega) (by rw [size_app]; show s.size + 1 ≤ _; omega)
      exact ⟨b, by rw [stratalaw11_framed.l0, if_pos h8, if_pos (by omega)]; exact e, z⟩
    · exact ⟨s.extract 0 8, by rw [stratalaw11_framed.l0, if_neg h8, if_pos (by decide), if_pos (by omega)], ext_size0 s 8 (by omega)⟩
theorem framed_is (k0 : Int) (s : ByteArray) (hs : s.size ≤ 140737488355328) : ∃ k1 b, stratalaw11_framed.f 9 k0 s = some (k1, b) ∧ ∀ l, 1 ≤ l ∧ l ≤ 4611686018427387903 → fitB k1 l b.size = true := by
  unfold stratalaw11_framed.f
  by_cases c2 : k0 = 2
  · obtain ⟨b, e, z⟩ := pad 8 k0 s (by omega) hs
    exact ⟨k0, b, by rw [if_pos c2]; exact e, fun l hl => fit_of hl (Or.inr (Or.inl ⟨c2, by omega⟩))⟩
  rw [if_neg c2]
  by_cases c3 : k0 = 3
  · exact ⟨k0, ⟨#[]⟩, by rw [if_pos c3], fun l hl => fit_of hl (Or.inr (Or.inr ⟨c3, rfl⟩))⟩
  rw [if_neg c3]
  by_cases c4 : s.toList = ([] : List UInt8)
  · exact ⟨1, ⟨#[100]⟩, by rw [if_pos c4, if_neg (by decide)], fun l hl => fit_of hl (Or.inl ⟨rfl, by decide, by decide⟩)⟩
  rw [if_neg c4]
  have hp : 1 ≤ s.size := by
    rcases Nat.eq_zero_or_pos s.size with h0 | h0
    · exact absurd (by rw [toList_data]; exact List.eq_nil_of_length_eq_zero (by rw [size_list]; exact h0)) c4
    · exact h0
  by_cases c5 : (s.size : Int) > 131072
  · have z := ext_size0 s 131072 (by omega)
    exact ⟨1, s.extract 0 131072, by rw [if_pos c5, if_pos (by decide), if_pos (by omega)], fun l hl => fit_of hl (Or.inl ⟨rfl, by omega, by omega⟩)⟩
  · exact ⟨1, s, by rw [if_neg c5], fun l hl => fit_of hl (Or.inl ⟨rfl, by omega, by omega⟩)⟩
end Go.Proofs.YtdepngppnbobdaaDoor.HOne
