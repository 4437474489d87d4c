/- RedoRoundTrip: the plain law, and the law's walk: what may be is laid down and comes back; cut short or with a byte more it is none; what is read is laid down as it was. -/
import Derived.Test.YtdepngppnbobdaaPRedoRoundTripx6
import Derived.Test.YtdepngppnbobdaaHWrites
import Derived.Test.YtdepngppnbobdaaHRound
set_option linter.unusedVariables false
set_option linter.unusedSimpArgs false
namespace Go.Proofs.Ytdepngppnbobdaa.Pure
open Go.RowKit Go.Proofs.Ytdepngppnbobdaa.PRedoRoundTrip Go.Proofs.Ytdepngppnbobdaa.PRed Go.Proofs.Ytdepngppnbobdaa.HGiv Go.Proofs.Ytdepngppnbobdaa.HDec Go.Proofs.Ytdepngppnbobdaa.HRound Go.Proofs.Ytdepngppnbobdaa.HRedL Go.Proofs.Ytdepngppnbobdaa.HCore Go.Proofs.YtdepngppnbobdaaW.PrintWords Go.Proofs.YtdepngppnbobdaaW.PrintLast

theorem enc_small {st : Int} {ws : List S36} (hm : may st ws = true) : (enc st ws).length ≤ 100000 := by
  have h1 := may_parts hm
  unfold may at hm
  simp only [Bool.and_eq_true, decide_eq_true_eq] at hm
  have h2 := encl_len ws (ok_small ws _ hm.2)
  have h3 := HBlob.uvb_size st.toNat
  have h4 := HBlob.uvb_size ws.length
  unfold enc
  rw [List.length_append, List.length_append, size_list, size_list]
  omega
theorem told_may {s : ByteArray} (h : (told (decC s)).2.2 = 0) : decC s = some ((told (decC s)).1, (told (decC s)).2.1) := by
  cases hd : decC s with
  | none => rw [hd] at h; exact absurd h (by decide)
  | some r => rfl
theorem dec_at (s : ByteArray) (hs : s.size ≤ 4611686018427387904) (k : Nat) (hk : 600 < k) : redo_DecodeCommit.f k s = some (told (decC s)) := ref_dec s hs k hk
theorem enc_at (st : Int) (ws : List S36) (hn : ws.length < 4000000000000) (k : Nat) (hk : 3 * ws.length + 3 ≤ k) : redo_EncodeCommit.f k st ws = some (encF st ws) := by
  unfold redo_EncodeCommit.f
  rw [if_pos hn]
  exact ref_enc st ws (by omega) k hk
theorem back (s : ByteArray) (hs : s.size ≤ 4611686018427387904) (k : Nat) (hk : 2000 < k) : stratalaw11_RedoRoundTrip.j1 k s = some true := by
  obtain ⟨k, rfl⟩ : ∃ m, k = m + 1 := ⟨k - 1, by omega⟩
  rw [stratalaw11_RedoRoundTrip.j1, dec_at s hs k (by omega), Option.bind_some]
  unfold stratalaw11_num.f
  rw [Option.bind_some]
  by_cases h : (told (decC s)).2.2 = 0
  · rw [if_pos h]
    have hd := told_may h
    obtain ⟨e, m⟩ := decC_drop hd
    have hp := may_parts m
    rw [enc_at _ _ (by omega) k (by omega), Option.bind_some]
    unfold encF
    rw [if_pos m]
    simp only
    rw [if_pos (by rw [toList_data, toList_data, e])]
    rfl
  · rw [if_neg h]
    cases hd : decC s with
    | none => rfl
    | some r => rw [hd] at h; exact absurd rfl h
theorem rt (st : Int) (ws : List S36) (s : ByteArray) (hn : ws.length < 3518437208783) (hs : s.size ≤ 140737488351232) : ∃ k, stratalaw11_RedoRoundTrip.f k st ws s = some true := by
  have hbig : ws.length < 4000000000000 := by omega
  refine ⟨3 * ws.length + 9000, ?_⟩
  unfold stratalaw11_RedoRoundTrip.f
  rw [HWrites.own_is st ws (by omega) _ (by omega), Option.bind_some, enc_at st ws hbig _ (by omega), Option.bind_some, may_is st ws (by omega) _ (by omega), Option.bind_some]
  unfold stratalaw11_num.f
  rw [Option.bind_some]
  by_cases hm : may st ws = true
  · have he : encF st ws = (⟨(enc st ws).toArray⟩, 0) := by unfold encF; rw [if_pos hm]
    rw [he, hm]
    have hne := enc_ne hm
    have hp := may_parts hm
    have hz : (⟨(enc st ws).toArray⟩ : ByteArray).size = (enc st ws).length := by rw [← size_list]
    have hlen := enc_small hm
    have hpos : 0 < (enc st ws).length := List.length_pos_iff.2 hne
    have d1 := decC_fwd (s := ⟨(enc st ws).toArray⟩) (t := []) hm (by simp)
    rw [if_pos rfl] at d1
    simp only
    rw [if_neg (show ¬ (((0 : Int) == 0) != true) = true by decide), if_pos trivial, dec_at _ (by rw [hz]; omega) _ (by omega), Option.bind_some, d1]
    simp only [told]
    rw [HWrites.same_is st ws (by omega) _ (by omega), Option.bind_some]
    rw [Option.bind_some, if_pos rfl, if_pos rfl]
    have d2 : decC ((⟨(enc st ws).toArray⟩ : ByteArray) ++ (⟨#[120]⟩ : ByteArray)) = none := by
      rw [decC_fwd (t := [120]) hm (by rw [append_list])]
      rfl
    have hcut : decC ((⟨(enc st ws).toArray⟩ : ByteArray).extract 0 ((enc st ws).length - 1)) = none := by
      refine decC_cut (c := (enc st ws).getLast hne) hm ?_
      rw [extract_list, List.drop_zero, Nat.sub_zero]
      show (enc st ws).take ((enc st ws).length - 1) ++ _ = _
      rw [← List.dropLast_eq_take, List.dropLast_concat_getLast]
    obtain ⟨k, hk⟩ : ∃ k, 3 * ws.length + 9000 = k + 1 := ⟨_, rfl⟩
    rw [hk, stratalaw11_RedoRoundTrip.j0, if_neg (by rw [beq_iff_eq, toList_data]; exact hne), if_pos (by rw [hz]; omega), dec_at _ (by rw [app_size, hz]; show (enc st ws).length + 1 ≤ _; omega) _ (by omega), Option.bind_some, d2]
    have ew : wrap64 (((⟨(enc st ws).toArray⟩ : ByteArray).size : Int) - 1) = (((enc st ws).length - 1 : Nat) : Int) := by rw [hz, w64 (by omega) (by omega)]; omega
    rw [ew, if_pos (by omega), if_pos (by rw [hz]; omega), Int.toNat_natCast, dec_at _ (by rw [ext_size0 _ _ (by rw [hz]; omega)]; omega) _ (by omega), Option.bind_some, hcut]
    unfold stratalaw11_num.f
    simp only [told]
    rw [Option.bind_some, if_pos rfl, Option.bind_some, if_pos rfl]
    exact back s (by omega) _ (by omega)
  · have hm' : may st ws = false := by simpa using hm
    have he : encF st ws = ((⟨#[]⟩ : ByteArray), 112) := by unfold encF; rw [hm', if_neg (by decide)]
    rw [he, hm']
    simp only
    rw [if_neg (show ¬ (((112 : Int) == 0) != false) = true by decide), if_neg (by decide)]
    exact back s (by omega) _ (by omega)
theorem walk (x : HKinds.S25) (cs : Array Value) (s : ByteArray) (w : World) (hK : HKinds.k25.K w x cs.toList) (q : x.f1.length * 40 ≤ 140737488351232) (hs : s.size ≤ 140737488351232) :
    Calls Try.prog 7 #[.agg cs, .string s] w fun e w' => e = .returned (.bool true) ∧ Below w.heap.size w w' := by
  obtain ⟨A, c, hcs, hl, hC⟩ := HKinds.k25_open hK
  obtain rfl : cs = #[.int .u64 x.f0, .slice A x.f1.length c] := by cases cs; simp_all
  obtain ⟨k, hk⟩ := rt x.f0 x.f1 s (by omega) hs
  exact stratalaw11_RedoRoundTrip.calls k x.f0 A c x.f1 s true w hC hl hk
end Go.Proofs.Ytdepngppnbobdaa.Pure
