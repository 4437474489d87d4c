/- A frame's bytes and a frame read back, in plain words: what the program's and the document's functions compute (r2's door seat). -/
import Derived.Test.YtdepngppnbobdaaDoorPFrx5
import Derived.Test.YtdepngppnbobdaaDoorPFrx4
import Derived.Test.YtdepngppnbobdaaDoorPFrx2
import Derived.Test.YtdepngppnbobdaaDoorHSum
import Derived.Test.YtdepngppnbobdaaDoorHCore2
import Derived.Test.YtdepngppnbobdaaDoorHBaseL
set_option linter.unusedVariables false
set_option linter.unusedSimpArgs false
namespace Go.Proofs.YtdepngppnbobdaaDoor.HFr
open Go.RowKit Go.Proofs.YtdepngppnbobdaaDoor.PFr Go.Proofs.YtdepngppnbobdaaDoor.HBase Go.Proofs.YtdepngppnbobdaaDoor.HSum Go.Proofs.YtdepngppnbobdaaDoorW.PrintWords Go.Proofs.YtdepngppnbobdaaDoorW.PrintLast Go.Proofs.YtdepngppnbobdaaDoorW.PrintMore Go.Proofs.YtdepngppnbobdaaDoor.HCore Go.Proofs.YtdepngppnbobdaaDoor.HCrc
open Go.Proofs.YtdepngppnbobdaaDoor.HBaseL (fval_4 fval_8)

def dns : Nat → Nat → Nat
  | 0, r => r
  | d + 1, r => dns d (dn r)
/-- The sum of parts, from a sum on. -/
def sums (c : Nat) (l : List ByteArray) : Nat := l.foldl (fun c p => ext c p.data.toList) c
theorem check_loop (l : List ByteArray) (hl : ∀ p ∈ l, p.size ≤ 4611686018427387904) (hn : l.length ≤ 4611686018427387904) (d : Nat) : ∀ (i k c : Nat), i + d = l.length → d < k → c < 2 ^ 32 →
    bits_Checksum.l0 k (c : Int) l (l.length : Int) (i : Int) = some ((sums c (l.drop i) : Nat) : Int) := by
  induction d with
  | zero =>
    intro i k c hi hk hc
    obtain ⟨k, rfl⟩ : ∃ m, k = m + 1 := ⟨k - 1, by omega⟩
    simp only [bits_Checksum.l0]
    rw [if_neg (by omega), List.drop_of_length_le (by omega)]
    rfl
  | succ d ih =>
    intro i k c hi hk hc
    obtain ⟨k, rfl⟩ : ∃ m, k = m + 1 := ⟨k - 1, by omega⟩
    simp only [bits_Checksum.l0]
    have hlt : i < l.length := by omega
    rw [if_pos (by omega), if_pos (by omega), if_pos (by omega)]
    have hr : rdOf ByteArray.empty l (i : Int) = l[i] := by
      unfold rdOf
      rw [Int.toNat_natCast, List.getD_eq_getElem?_getD, List.getElem?_eq_getElem hlt]
      rfl
    have hf : bits_Extend.f (c : Int) l[i] = some ((ext c (l[i]).data.toList : Nat) : Int) := by
      unfold bits_Extend.f
      rw [if_pos ⟨by omega, by omega, hl _ (List.getElem_mem hlt)⟩, Int.toNat_natCast]
    rw [hr, hf]
    simp only [Option.bind_some]
    rw [w64 (by omega) (by omega), show (i : Int) + 1 = ((i + 1 : Nat) : Int) by omega, ih (i + 1) k _ (by omega) (by omega) (ext_lt c _ hc), List.drop_eq_getElem_cons hlt]
    rfl
theorem check_any (l : List ByteArray) (hl : ∀ p ∈ l, p.size ≤ 4611686018427387904) (hn : l.length ≤ 4611686018427387904) (k : Nat) (hk : l.length < k) : bits_Checksum.f k l = some ((sums 0 l : Nat) : Int) := by
  have := check_loop l hl hn l.length 0 k 0 (by omega) hk (by decide)
  rw [List.drop_zero] at this
  exact this


theorem down_f (r : Nat) (hr : r < 2 ^ 32) : strataref01_down.f (r : Int) = some ((dn r : Nat) : Int) := by
  unfold strataref01_down.f dn
  have e2 : Int.tdiv (r : Int) 2 % 4294967296 = ((r / 2 : Nat) : Int) := by rw [tdiv_nn (by omega)]; omega
  have e1 : Int.tmod (r : Int) 2 = ((r % 2 : Nat) : Int) := by rw [tmod_nn (by omega)]; omega
  rw [e1, e2]
  rcases Nat.mod_two_eq_zero_or_one r with h | h
  · rw [h, if_neg (by decide), if_neg (by decide)]
  · rw [h, if_pos (by decide), if_pos rfl]
    exact congrArg some (xor_u32 (r / 2) poly (by omega) (by decide))
theorem inner (s : ByteArray) (i : Int) (k : Nat) : ∀ (d r : Nat), d ≤ 8 → r < 2 ^ 32 → strataref01_Extend.l1 (k + d + 1) s (r : Int) i (8 - (d : Int)) = strataref01_Extend.l0 k s ((dns d r : Nat) : Int) (wrap64 (i + 1))
  | 0, r, _, _ => by
    simp only [strataref01_Extend.l1]
    rw [if_neg (by omega)]
    rfl
  | d + 1, r, hd, hr => by
    have ih := inner s i k d (dn r) (by omega) (dn_lt hr)
    rw [show k + (d + 1) + 1 = (k + d + 1) + 1 by omega]
    generalize k + d + 1 = K at ih ⊢
    simp only [strataref01_Extend.l1]
    have hw : wrap64 (8 - ((d + 1 : Nat) : Int) + 1) = 8 - (d : Int) := by rw [w64 (by omega) (by omega)]; omega
    rw [if_pos (by omega), down_f r hr]
    simp only [Option.bind_some]
    rw [hw, ih]
    rfl
theorem outer (s : ByteArray) (hs : s.size ≤ 4611686018427387904) (d : Nat) : ∀ (i k r : Nat), i + d = s.size → 10 * d < k → r < 2 ^ 32 →
    strataref01_Extend.l0 k s (r : Int) (i : Int) = some ((4294967295 ^^^ crc r (s.data.toList.drop i) : Nat) : Int) := by
  induction d with
  | zero =>
    intro i k r hi hk hr
    obtain ⟨k, rfl⟩ : ∃ m, k = m + 1 := ⟨k - 1, by omega⟩
    simp only [strataref01_Extend.l0]
    rw [if_neg (by omega), List.drop_of_length_le (by rw [size_list]; omega)]
    exact congrArg some (xor_u32 4294967295 r (by decide) hr)
  | succ d ih =>
    intro i k r hi hk hr
    obtain ⟨k, rfl⟩ : ∃ m, k = (m + 8 + 1) + 1 := ⟨k - 10, by omega⟩
    have hlt : i < s.data.toList.length := by rw [size_list]; omega
    have hb : bt s (i : Int) % 4294967296 = (((s.data.toList[i]).toNat : Nat) : Int) := by
      rw [bt_list, List.getD_eq_getElem?_getD, List.getElem?_eq_getElem hlt]
      simp only [Option.getD_some]
      have := (s.data.toList[i]).toNat_lt
      omega
    have hbl : (s.data.toList[i]).toNat < 2 ^ 32 := by have := (s.data.toList[i]).toNat_lt; omega
    have hw : wrap64 ((i : Int) + 1) = ((i + 1 : Nat) : Int) := by rw [w64 (by omega) (by omega)]; omega
    simp only [strataref01_Extend.l0]
    rw [if_pos (by omega), if_pos (by omega), hb, xor_u32 r _ hr hbl, show (0 : Int) = 8 - ((8 : Nat) : Int) from rfl]
    rw [inner s (i : Int) k 8 (r ^^^ (s.data.toList[i]).toNat) (by omega) (Nat.xor_lt_two_pow hr hbl), hw]
    have e8 : dns 8 (r ^^^ (s.data.toList[i]).toNat) = dn8 (r ^^^ (s.data.toList[i]).toNat) := rfl
    rw [e8, ih (i + 1) k _ (by omega) (by omega) (dn8_lt (Nat.xor_lt_two_pow hr hbl)), List.drop_eq_getElem_cons hlt]
    rfl
theorem ref_ext (s : ByteArray) (hs : s.size ≤ 4611686018427387904) (c k : Nat) (hc : c < 2 ^ 32) (hk : 10 * s.size < k) : strataref01_Extend.f k (c : Int) s = some ((ext c s.data.toList : Nat) : Int) := by
  unfold strataref01_Extend.f
  have e : Go.bits .xor .u32 IntKind.u32.max (c : Int) = ((4294967295 ^^^ c : Nat) : Int) := xor_u32 4294967295 c (by decide) hc
  rw [e]
  have := outer s hs s.size 0 k (4294967295 ^^^ c) (by omega) hk (Nat.xor_lt_two_pow (by decide) hc)
  rw [List.drop_zero] at this
  exact this
theorem rd_at (l : List ByteArray) (i : Nat) (h : i < l.length) : rdOf ByteArray.empty l (i : Int) = l[i] := by
  unfold rdOf
  rw [Int.toNat_natCast, List.getD_eq_getElem?_getD, List.getElem?_eq_getElem h]
  rfl
theorem ref_loop (l : List ByteArray) (M : Nat) (hM : M ≤ 4611686018427387904) (hl : ∀ p ∈ l, p.size ≤ M) (hn : l.length ≤ 4611686018427387904) (d : Nat) : ∀ (i k c : Nat), i + d = l.length → d + 10 * M + 1 < k → c < 2 ^ 32 →
    strataref01_Checksum.l0 k l (c : Int) (i : Int) = some ((sums c (l.drop i) : Nat) : Int) := by
  induction d with
  | zero =>
    intro i k c hi hk hc
    obtain ⟨k, rfl⟩ : ∃ m, k = m + 1 := ⟨k - 1, by omega⟩
    simp only [strataref01_Checksum.l0]
    rw [if_neg (by omega), List.drop_of_length_le (by omega)]
    rfl
  | succ d ih =>
    intro i k c hi hk hc
    obtain ⟨k, rfl⟩ : ∃ m, k = m + 1 := ⟨k - 1, by omega⟩
    have hlt : i < l.length := by omega
    have hp := hl _ (List.getElem_mem hlt)
    have hw : wrap64 ((i : Int) + 1) = ((i + 1 : Nat) : Int) := by rw [w64 (by omega) (by omega)]; omega
    simp only [strataref01_Checksum.l0]
    rw [if_pos (by omega), if_pos (by omega), rd_at l i hlt, ref_ext _ (by omega) c k hc (by omega)]
    simp only [Option.bind_some]
    rw [hw, ih (i + 1) k _ (by omega) (by omega) (ext_lt c _ hc), List.drop_eq_getElem_cons hlt]
    rfl
theorem ref_any (l : List ByteArray) (M : Nat) (hM : M ≤ 4611686018427387904) (hl : ∀ p ∈ l, p.size ≤ M) (hn : l.length ≤ 4611686018427387904) (k : Nat) (hk : l.length + 10 * M + 1 < k) : strataref01_Checksum.f k l = some ((sums 0 l : Nat) : Int) := by
  have := ref_loop l M hM hl hn l.length 0 k 0 (by omega) hk (by decide)
  rw [List.drop_zero] at this
  exact this

/-- The sum of a text, as the functions give it. -/
def ck (s : ByteArray) : Int := ((ext 0 s.data.toList : Nat) : Int)
theorem ck_rng (s : ByteArray) : 0 ≤ ck s ∧ ck s ≤ 4294967295 := by
  have := ext_lt 0 s.data.toList (by decide)
  unfold ck
  omega
theorem chk (s : ByteArray) (hs : s.size ≤ 4611686018427387904) (k : Nat) (hk : 1 < k) : bits_Checksum.f k [s] = some (ck s) :=
  check_any [s] (by intro p hp; simp at hp; subst hp; exact hs) (by simp) k hk
theorem sum_is (s : ByteArray) (hs : s.size ≤ 4611686018427387904) (k : Nat) (hk : 10 * s.size + 2 < k) : strataref11_sum.f k s = some (ck s) := by
  unfold strataref11_sum.f
  rw [ref_any [s] s.size hs (by intro p hp; simp at hp; subst hp; exact Nat.le_refl _) (by simp) k (by simp; omega)]
  rfl
theorem fits_j (k : Nat) : redo_fits.j0 k = strataref11_frameMay.j0 k := by
  funext a b c
  cases k <;> rfl
theorem fits_same (k : Nat) : redo_fits.f k = strataref11_frameMay.f k := by
  funext a b c
  unfold redo_fits.f strataref11_frameMay.f
  rw [fits_j]
/-- May a frame be of that kind, number and length? -/
def fitB (a0 a1 a2 : Int) : Bool := (redo_fits.f 1 a0 a1 a2).getD false
theorem fits_is (a0 a1 a2 : Int) (k : Nat) (hk : 0 < k) : redo_fits.f k a0 a1 a2 = some (fitB a0 a1 a2) := by
  obtain ⟨k, rfl⟩ : ∃ m, k = m + 1 := ⟨k - 1, by omega⟩
  unfold fitB redo_fits.f
  simp only [redo_fits.j0]
  split <;> (repeat' split) <;> rfl
theorem may_is (a0 a1 a2 : Int) (k : Nat) (hk : 0 < k) : strataref11_frameMay.f k a0 a1 a2 = some (fitB a0 a1 a2) := by rw [← fits_same]; exact fits_is a0 a1 a2 k hk
theorem fit_rng (a0 a1 a2 : Int) (h : fitB a0 a1 a2 = true) : 1 ≤ a0 ∧ a0 ≤ 3 ∧ 1 ≤ a1 ∧ a1 ≤ 4611686018427387903 ∧ 0 ≤ a2 ∧ a2 ≤ 131072 := by
  unfold fitB redo_fits.f at h
  simp only [redo_fits.j0] at h
  by_cases h1 : a1 < 1
  · rw [if_pos h1] at h; simp at h
  rw [if_neg h1] at h
  by_cases h2 : decide (a1 > 4611686018427387903) = true
  · rw [if_pos h2] at h; simp at h
  rw [if_neg h2] at h
  have h3 : ¬ a1 > 4611686018427387903 := by simpa using h2
  by_cases h4 : a0 = 1
  · rw [if_pos h4] at h
    by_cases h5 : a2 ≥ 1
    · rw [if_pos h5] at h; simp at h; omega
    · rw [if_neg h5] at h; simp at h
  rw [if_neg h4] at h
  by_cases h6 : a0 = 2
  · rw [if_pos h6] at h; simp at h; omega
  rw [if_neg h6] at h
  by_cases h7 : a0 = 3
  · rw [if_pos h7] at h; simp at h; omega
  · rw [if_neg h7] at h; simp at h

/-- A frame's head, up to the sum of the head. -/
def hdl (kd lsn : Int) (body : ByteArray) : List UInt8 := [83, 70] ++ [UInt8.ofNat (kd % 256).toNat] ++ [0] ++ (fxb 4 ((body.size : Int) % 4294967296)).data.toList ++ (fxb 8 lsn).data.toList ++ (fxb 4 (ck body)).data.toList
/-- A frame's bytes. -/
def frl (kd lsn : Int) (body : ByteArray) : List UInt8 := hdl kd lsn body ++ (fxb 4 (ck ⟨(hdl kd lsn body).toArray⟩)).data.toList ++ body.data.toList
def frF (kd lsn : Int) (body : ByteArray) : ByteArray × Int := if fitB kd lsn body.size = true then (⟨(frl kd lsn body).toArray⟩, 0) else ((⟨#[]⟩ : ByteArray), 110)
theorem hdl_len (kd lsn : Int) (body : ByteArray) : (hdl kd lsn body).length = 20 := by
  unfold hdl
  simp only [List.length_append, List.length_cons, List.length_nil, size_list, fxb_len]
theorem ba_list {a b : ByteArray} (h : a.data.toList = b.data.toList) : a = b := by
  cases a; cases b; simp only [ByteArray.mk.injEq]; exact Array.toList_inj.1 h
theorem ref_encode (kd lsn : Int) (body : ByteArray) (hb : body.size ≤ 4611686018427387904) (k : Nat) (hk : 10 * body.size + 300 < k) : strataref11_EncodeFrame.f k kd lsn body = some (frF kd lsn body) := by
  unfold strataref11_EncodeFrame.f frF
  rw [may_is _ _ _ k (by omega)]
  simp only [Option.bind_some]
  by_cases hm : fitB kd lsn body.size = true
  · obtain ⟨r1, r2, r3, r4, r5, r6⟩ := fit_rng _ _ _ hm
    rw [if_pos hm, if_pos hm]
    have e1 : strataref01_Fixed32.f ((body.size : Int) % 4294967296) = some (fxb 4 ((body.size : Int) % 4294967296)) := by unfold strataref01_Fixed32.f; rw [if_pos ⟨by omega, by omega⟩]
    have e2 : strataref01_Fixed64.f lsn = some (fxb 8 lsn) := by unfold strataref01_Fixed64.f; rw [if_pos ⟨by omega, by omega⟩]
    have c1 := ck_rng body
    have e3 : strataref01_Fixed32.f (ck body) = some (fxb 4 (ck body)) := by unfold strataref01_Fixed32.f; rw [if_pos c1]
    have n0 : (strOfNums [kd % 256, 0]).size = 2 := by rw [strOfNums_len]; rfl
    have nh : (((((⟨#[83, 70]⟩ : ByteArray) ++ (strOfNums [kd % 256, 0])) ++ fxb 4 ((body.size : Int) % 4294967296)) ++ fxb 8 lsn) ++ fxb 4 (ck body)).data.toList = hdl kd lsn body := by
      simp only [append_list, strOfNums_list]
      unfold hdl
      simp
    have nb : (((((⟨#[83, 70]⟩ : ByteArray) ++ (strOfNums [kd % 256, 0])) ++ fxb 4 ((body.size : Int) % 4294967296)) ++ fxb 8 lsn) ++ fxb 4 (ck body)) = ⟨(hdl kd lsn body).toArray⟩ := ba_list (by rw [nh])
    have z0 : (⟨#[83, 70]⟩ : ByteArray).size = 2 := rfl
    have f4 : ∀ v, (fxb 4 v).size = 4 := fun v => fxb_len 4 v
    have f8 : ∀ v, (fxb 8 v).size = 8 := fun v => fxb_len 8 v
    rw [if_pos (by rw [n0]; omega), e1]
    simp only [Option.bind_some]
    rw [if_pos (by simp only [ByteArray.size_append, n0, z0, f4, f8]; omega), e2]
    simp only [Option.bind_some]
    rw [if_pos (by simp only [ByteArray.size_append, n0, z0, f4, f8]; omega), sum_is body hb k (by omega)]
    simp only [Option.bind_some]
    rw [e3]
    simp only [Option.bind_some]
    rw [if_pos (by simp only [ByteArray.size_append, n0, z0, f4, f8]; omega), nb]
    have hz : (⟨(hdl kd lsn body).toArray⟩ : ByteArray).size = 20 := by rw [← size_list]; exact hdl_len kd lsn body
    rw [sum_is _ (by omega) k (by omega)]
    simp only [Option.bind_some]
    have c2 := ck_rng ⟨(hdl kd lsn body).toArray⟩
    have e4 : strataref01_Fixed32.f (ck ⟨(hdl kd lsn body).toArray⟩) = some (fxb 4 (ck ⟨(hdl kd lsn body).toArray⟩)) := by unfold strataref01_Fixed32.f; rw [if_pos c2]
    rw [e4]
    simp only [Option.bind_some]
    rw [if_pos (by rw [hz, f4]; omega), if_pos (by simp only [ByteArray.size_append, hz, f4]; omega)]
    refine congrArg some (Prod.ext (ba_list ?_) rfl)
    simp only [append_list]
    rfl
  · rw [if_neg hm, if_neg hm]

theorem ext0 (h : ByteArray) (m : Nat) : (h.extract 0 m).data.toList = h.data.toList.take m := by rw [extract_list, List.drop_zero, Nat.sub_zero]
theorem bt_take (h : ByteArray) (m : Nat) (i : Nat) (hi : i < m) : bt (h.extract 0 m) (i : Int) = bt h (i : Int) := by
  rw [bt_list, bt_list, ext0, List.getD_eq_getElem?_getD, List.getD_eq_getElem?_getD, List.getElem?_take, if_pos hi]
theorem fval4_take (h : ByteArray) (m p : Nat) (hp : p + 4 ≤ m) : fval (h.extract 0 m) (p : Int) 4 = fval h (p : Int) 4 := by
  rw [fval_4, fval_4, show (p : Int) + 1 = ((p + 1 : Nat) : Int) by omega, show (p : Int) + 2 = ((p + 2 : Nat) : Int) by omega, show (p : Int) + 3 = ((p + 3 : Nat) : Int) by omega]
  rw [bt_take h m p (by omega), bt_take h m (p + 1) (by omega), bt_take h m (p + 2) (by omega), bt_take h m (p + 3) (by omega)]
theorem fval8_take (h : ByteArray) (m p : Nat) (hp : p + 8 ≤ m) : fval (h.extract 0 m) (p : Int) 8 = fval h (p : Int) 8 := by
  rw [fval_8, fval_8, show (p : Int) + 4 = ((p + 4 : Nat) : Int) by omega, fval4_take h m p (by omega), fval4_take h m (p + 4) (by omega)]
theorem take_of (s : ByteArray) (n m : Nat) (h : n + m ≤ s.size) : s.extract n (n + m) = (s.extract n s.size).extract 0 m := by
  apply ba_list
  rw [ext0, extract_list, extract_list, Nat.add_sub_cancel_left, List.take_take, Nat.min_eq_left (by omega)]
theorem take_take (h : ByteArray) (a b : Nat) (hab : a ≤ b) : (h.extract 0 b).extract 0 a = h.extract 0 a := by
  apply ba_list
  rw [ext0, ext0, ext0, List.take_take, Nat.min_eq_left hab]
theorem drop_of (s : ByteArray) (n a b : Nat) (h : n + b ≤ s.size) : s.extract (n + a) (n + b) = (s.extract n s.size).extract a b := by
  apply ba_list
  rw [extract_list, extract_list, extract_list, List.drop_take, List.take_take, List.drop_drop, show n + b - (n + a) = b - a by omega, Nat.min_eq_left (by omega)]

/-- What stands at place n of a text that has room for a head there. -/
def decB (h : ByteArray) (n : Nat) : Int × Int × ByteArray × Int × Int :=
  if (h.extract 0 2).toList = ([83, 70] : List UInt8) then
    if fval h 20 4 = ck (h.extract 0 20) then
      if bt h 3 = 0 ∧ fitB (bt h 2) (fval h 8 8) (fval h 4 4) = true then
        if fval h 4 4 > (h.size : Int) - 24 then (0, 0, (⟨#[]⟩ : ByteArray), (n : Int), 1)
        else if fval h 16 4 = ck (h.extract 24 (24 + fval h 4 4).toNat) then (bt h 2, fval h 8 8, h.extract 24 (24 + fval h 4 4).toNat, (n : Int) + 24 + fval h 4 4, 0)
        else (0, 0, (⟨#[]⟩ : ByteArray), (n : Int), 5)
      else (0, 0, (⟨#[]⟩ : ByteArray), (n : Int), 4)
    else (0, 0, (⟨#[]⟩ : ByteArray), (n : Int), 3)
  else (0, 0, (⟨#[]⟩ : ByteArray), (n : Int), 2)
def decG (s : ByteArray) (n : Nat) : Int × Int × ByteArray × Int × Int := decB (s.extract n s.size) n
def decF (s : ByteArray) (p : Int) : Int × Int × ByteArray × Int × Int := if p < 0 ∨ p > s.size ∨ (s.size : Int) - p < 24 then (0, 0, (⟨#[]⟩ : ByteArray), p, 1) else decG s p.toNat
theorem word32_is (h : ByteArray) (p : Nat) (hs : h.size ≤ 4611686018427387904) (hp : p + 4 ≤ h.size) : redo_word32.f h (p : Int) = some (fval h (p : Int) 4) := by
  unfold redo_word32.f bits_ReadFixed32.f
  rw [if_pos hs, rfix_ok (by omega) (by omega)]
  rfl
theorem word64_is (h : ByteArray) (p : Nat) (hs : h.size ≤ 4611686018427387904) (hp : p + 8 ≤ h.size) : redo_word64.f h (p : Int) = some (fval h (p : Int) 8) := by
  unfold redo_word64.f bits_ReadFixed64.f
  rw [if_pos hs, rfix_ok (by omega) (by omega)]
  rfl
theorem prog_dec (s : ByteArray) (p : Int) (hs : s.size ≤ 2305843009213693952) (k : Nat) (hk : 8 < k) : redo_DecodeFrame.f k s p = some (decF s p) := by
  obtain ⟨k, rfl⟩ : ∃ m, k = m + 1 := ⟨k - 1, by omega⟩
  unfold redo_DecodeFrame.f decF
  have out : redo_DecodeFrame.j0 (k + 1) s p true = some (0, 0, (⟨#[]⟩ : ByteArray), p, 1) := by rw [redo_DecodeFrame.j0, if_pos rfl]
  by_cases h1 : p < 0
  · rw [if_pos h1, if_pos (Or.inl h1), out]
  by_cases h2 : p > s.size
  · rw [if_neg h1, if_pos h2, if_pos (Or.inr (Or.inl h2)), out]
  rw [if_neg h1, if_neg h2, w64 (by omega) (by omega)]
  by_cases h3 : (s.size : Int) - p < 24
  · rw [decide_eq_true h3, if_pos (Or.inr (Or.inr h3)), out]
  rw [decide_eq_false h3, if_neg (by omega)]
  obtain ⟨n, rfl⟩ := Int.eq_ofNat_of_zero_le (show 0 ≤ p by omega)
  clear out
  rw [redo_DecodeFrame.j0, if_neg (by decide), if_pos (by omega), if_pos (by omega), Int.toNat_natCast]
  unfold decG decB
  have hz : (s.extract n s.size).size = s.size - n := ext_size1 s n
  generalize s.extract n s.size = h at hz ⊢
  have hh : h.size ≤ 4611686018427387904 := by omega
  have l4 := fval_lt h 4 4
  have l8 := fval_lt h 8 8
  have b2 := bt_rng h 2
  have e8 := word64_is h 8 hh (by omega)
  have e4 := word32_is h 4 hh (by omega)
  have e20 := word32_is h 20 hh (by omega)
  have e16 := word32_is h 16 hh (by omega)
  simp only [Int.cast_ofNat_Int] at e8 e4 e20 e16
  have x20 : (h.extract 0 20).size = 20 := ext_size0 h 20 (by omega)
  have c20 := chk (h.extract 0 20) (by omega) k (by omega)
  have lw : wrap64 (fval h 4 4) = fval h 4 4 := w64 (by omega) (by omega)
  have bw : wrap64 (bt h 2) = bt h 2 := w64 (by omega) (by omega)
  rw [if_pos (by omega), e8]
  simp only [Option.bind_some]
  rw [e4]
  simp only [Option.bind_some]
  rw [if_pos (by omega), if_pos (by omega)]
  by_cases m1 : (h.extract 0 2).toList = ([83, 70] : List UInt8)
  · rw [if_pos m1, if_pos m1, e20]
    simp only [Option.bind_some]
    rw [if_pos (by omega), if_pos (by omega), c20]
    simp only [Option.bind_some]
    by_cases m2 : fval h 20 4 = ck (h.extract 0 20)
    · rw [if_pos m2, if_pos m2, if_pos (by omega), lw, bw]
      obtain ⟨k, rfl⟩ : ∃ m, k = m + 1 := ⟨k - 1, by omega⟩
      by_cases m3 : bt h 3 = 0
      · rw [if_pos m3, fits_is _ _ _ (k + 1) (by omega)]
        simp only [Option.bind_some]
        rw [redo_DecodeFrame.j1]
        by_cases m4 : fitB (bt h 2) (fval h 8 8) (fval h 4 4) = true
        · obtain ⟨r1, r2, r3, r4, r5, r6⟩ := fit_rng _ _ _ m4
          have mm : bt h 3 = 0 ∧ fitB (bt h 2) (fval h 8 8) (fval h 4 4) = true := ⟨m3, m4⟩
          have mn : ¬ ((!fitB (bt h 2) (fval h 8 8) (fval h 4 4)) = true) := by simp [m4]
          rw [if_pos mm, if_neg mn, w64 (n := (h.size : Int) - 24) (by omega) (by omega)]
          by_cases m5 : fval h 4 4 > (h.size : Int) - 24
          · rw [if_pos m5, if_pos m5]
          rw [if_neg m5, if_neg m5, w64 (n := 24 + fval h 4 4) (by omega) (by omega), if_pos (by omega), if_pos (by omega), e16]
          simp only [Option.bind_some]
          have xb : (h.extract 24 (24 + fval h 4 4).toNat).size ≤ 4611686018427387904 := by rw [ByteArray.size_extract]; omega
          rw [chk _ xb k (by omega)]
          simp only [Option.bind_some]
          rw [w64 (n := (n : Int) + 24) (by omega) (by omega), w64 (n := (n : Int) + 24 + fval h 4 4) (by omega) (by omega)]
          by_cases m6 : fval h 16 4 = ck (h.extract 24 (24 + fval h 4 4).toNat)
          · rw [if_pos m6, if_pos m6]
          · rw [if_neg m6, if_neg m6]
        · have mm : ¬ (bt h 3 = 0 ∧ fitB (bt h 2) (fval h 8 8) (fval h 4 4) = true) := fun hc => m4 hc.2
          have mn : (!fitB (bt h 2) (fval h 8 8) (fval h 4 4)) = true := by simpa using m4
          rw [if_neg mm, if_pos mn]
      · rw [if_neg m3, redo_DecodeFrame.j1, if_pos rfl, if_neg (show ¬ (bt h 3 = 0 ∧ fitB (bt h 2) (fval h 8 8) (fval h 4 4) = true) from fun hc => m3 hc.1)]
    · rw [if_neg m2, if_neg m2]
  · rw [if_neg m1, if_neg m1]
theorem rword4 (h : ByteArray) (p : Nat) (hs : h.size ≤ 4611686018427387904) (hp : p + 4 ≤ h.size) : strataref01_ReadFixed32.f h (p : Int) = some (fval h (p : Int) 4, (p : Int) + 4, 0) := by
  unfold strataref01_ReadFixed32.f
  rw [if_pos hs, rfix_ok (by omega) (by omega)]
  rfl
theorem rword8 (h : ByteArray) (p : Nat) (hs : h.size ≤ 4611686018427387904) (hp : p + 8 ≤ h.size) : strataref01_ReadFixed64.f h (p : Int) = some (fval h (p : Int) 8, (p : Int) + 8, 0) := by
  unfold strataref01_ReadFixed64.f
  rw [if_pos hs, rfix_ok (by omega) (by omega)]
  rfl
theorem ref_dec (s : ByteArray) (p : Int) (hs : s.size ≤ 140737488355328) (k : Nat) (hk : 10 * s.size + 300 < k) : strataref11_DecodeFrame.f k s p = some (decF s p) := by
  obtain ⟨k, rfl⟩ : ∃ m, k = m + 1 := ⟨k - 1, by omega⟩
  unfold strataref11_DecodeFrame.f decF
  have out : strataref11_DecodeFrame.j0 (k + 1) s p true = some (0, 0, (⟨#[]⟩ : ByteArray), p, 1) := by rw [strataref11_DecodeFrame.j0, if_pos rfl]
  by_cases h1 : p < 0
  · rw [if_pos h1, if_pos (Or.inl h1), out]
  by_cases h2 : p > s.size
  · rw [if_neg h1, if_pos h2, if_pos (Or.inr (Or.inl h2)), out]
  rw [if_neg h1, if_neg h2, w64 (by omega) (by omega)]
  by_cases h3 : (s.size : Int) - p < 24
  · rw [decide_eq_true h3, if_pos (Or.inr (Or.inr h3)), out]
  rw [decide_eq_false h3, if_neg (by omega)]
  obtain ⟨n, rfl⟩ := Int.eq_ofNat_of_zero_le (show 0 ≤ p by omega)
  clear out
  have w24 : wrap64 ((n : Int) + 24) = ((n + 24 : Nat) : Int) := by rw [w64 (by omega) (by omega)]; omega
  rw [strataref11_DecodeFrame.j0, if_neg (by decide), if_pos (by omega), w24, if_pos (by omega), if_pos (by omega), Int.toNat_natCast, Int.toNat_natCast, take_of s n 24 (by omega)]
  unfold decG decB
  have hz : (s.extract n s.size).size = s.size - n := ext_size1 s n
  have hx : ∀ L : Nat, n + (24 + L) ≤ s.size → s.extract (n + 24) (n + (24 + L)) = (s.extract n s.size).extract 24 (24 + L) := fun L hL => drop_of s n 24 (24 + L) hL
  generalize s.extract n s.size = h at hz hx ⊢
  have hg : (h.extract 0 24).size = 24 := ext_size0 h 24 (by omega)
  have l4 := fval_lt h 4 4
  have l8 := fval_lt h 8 8
  have b2 := bt_rng h 2
  have e8 := rword8 (h.extract 0 24) 8 (by omega) (by omega)
  have e4 := rword4 (h.extract 0 24) 4 (by omega) (by omega)
  have e20 := rword4 (h.extract 0 24) 20 (by omega) (by omega)
  have e16 := rword4 (h.extract 0 24) 16 (by omega) (by omega)
  rw [fval8_take h 24 8 (by omega)] at e8
  rw [fval4_take h 24 4 (by omega)] at e4
  rw [fval4_take h 24 20 (by omega)] at e20
  rw [fval4_take h 24 16 (by omega)] at e16
  have bb2 := bt_take h 24 2 (by omega)
  have bb3 := bt_take h 24 3 (by omega)
  simp only [Int.cast_ofNat_Int] at e8 e4 e20 e16 bb2 bb3
  have x20 : (h.extract 0 20).size = 20 := ext_size0 h 20 (by omega)
  have c20 := sum_is (h.extract 0 20) (by omega) k (by omega)
  have lw : wrap64 (fval h 4 4) = fval h 4 4 := w64 (by omega) (by omega)
  have bw : wrap64 (bt h 2) = bt h 2 := w64 (by omega) (by omega)
  rw [if_pos (by omega), if_pos (by omega), take_take h 2 24 (by omega), take_take h 20 24 (by omega)]
  by_cases m1 : (h.extract 0 2).toList = ([83, 70] : List UInt8)
  · rw [if_pos m1, if_pos m1, e20]
    simp only [Option.bind_some]
    rw [if_pos (by omega), if_pos (by omega), c20]
    simp only [Option.bind_some]
    by_cases m2 : fval h 20 4 = ck (h.extract 0 20)
    · rw [if_pos m2, if_pos m2, e4]
      simp only [Option.bind_some]
      rw [e8]
      simp only [Option.bind_some]
      rw [if_pos (by omega), bb2, bb3, lw, bw, may_is _ _ _ k (by omega)]
      simp only [Option.bind_some]
      obtain ⟨k, rfl⟩ : ∃ m, k = m + 1 := ⟨k - 1, by omega⟩
      by_cases m4 : fitB (bt h 2) (fval h 8 8) (fval h 4 4) = true
      · obtain ⟨r1, r2, r3, r4, r5, r6⟩ := fit_rng _ _ _ m4
        rw [if_pos m4, if_pos (by omega), strataref11_DecodeFrame.j1]
        by_cases m3 : bt h 3 = 0
        · have mm : bt h 3 = 0 ∧ fitB (bt h 2) (fval h 8 8) (fval h 4 4) = true := ⟨m3, m4⟩
          have mn : ¬ ((bt h 3 != 0) = true) := by simp [m3]
          obtain ⟨L, hL⟩ := Int.eq_ofNat_of_zero_le r5
          rw [if_pos mm, if_neg mn, w24, lw, hL, w64 (n := ((n + 24 : Nat) : Int) + (L : Int)) (by omega) (by omega)]
          by_cases m5 : (L : Int) > (h.size : Int) - 24
          · rw [if_pos m5, if_pos (by omega)]
          rw [if_neg m5, if_neg (by omega), if_pos (by omega), if_pos (by omega), if_pos (by omega), e16]
          simp only [Option.bind_some]
          have t1 : ((n + 24 : Nat) : Int).toNat = n + 24 := rfl
          have t2 : (((n + 24 : Nat) : Int) + (L : Int)).toNat = n + (24 + L) := by omega
          have t3 : (24 + (L : Int)).toNat = 24 + L := by omega
          rw [t1, t2, t3, hx L (by omega)]
          have xb : (h.extract 24 (24 + L)).size ≤ 131072 := by rw [ByteArray.size_extract]; omega
          have xb2 : (h.extract 24 (24 + L)).size ≤ s.size := by rw [ByteArray.size_extract]; omega
          rw [sum_is _ (by omega) k (by omega)]
          simp only [Option.bind_some]
          by_cases m6 : fval h 16 4 = ck (h.extract 24 (24 + L))
          · rw [if_pos m6, if_pos m6]
            rw [show ((n + 24 : Nat) : Int) + (L : Int) = (n : Int) + 24 + (L : Int) by omega]
          · rw [if_neg m6, if_neg m6]
        · have mm : ¬ (bt h 3 = 0 ∧ fitB (bt h 2) (fval h 8 8) (fval h 4 4) = true) := fun hc => m3 hc.1
          have mn : (bt h 3 != 0) = true := by simp [m3]
          rw [if_neg mm, if_pos mn]
      · have mm : ¬ (bt h 3 = 0 ∧ fitB (bt h 2) (fval h 8 8) (fval h 4 4) = true) := fun hc => m4 hc.2
        rw [if_neg m4, if_neg mm, strataref11_DecodeFrame.j1, if_pos rfl]
    · rw [if_neg m2, if_neg m2]
  · rw [if_neg m1, if_neg m1]
end Go.Proofs.YtdepngppnbobdaaDoor.HFr
