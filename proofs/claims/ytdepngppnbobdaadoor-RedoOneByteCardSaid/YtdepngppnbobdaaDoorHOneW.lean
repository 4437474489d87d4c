/- RedoOneByte: the law's walk (r2's door seat). -/
import Derived.Test.YtdepngppnbobdaaDoorHOne
import Derived.Test.YtdepngppnbobdaaDoorHEncF
import Derived.Test.YtdepngppnbobdaaDoorWEqStruct
set_option linter.unusedVariables false
set_option linter.unusedSimpArgs false
namespace Go.Proofs.YtdepngppnbobdaaDoor.HOneW
open Go.RowKit Go.Proofs.YtdepngppnbobdaaDoor.PFr Go.Proofs.YtdepngppnbobdaaDoor.HFr Go.Proofs.YtdepngppnbobdaaDoor.HOne Go.Proofs.YtdepngppnbobdaaDoor.HEncF Go.Proofs.YtdepngppnbobdaaDoor.HSum Go.Proofs.YtdepngppnbobdaaDoor.HBuild Go.Proofs.YtdepngppnbobdaaDoorW.PrintWords Go.Proofs.YtdepngppnbobdaaDoorW.PrintLast Go.Proofs.YtdepngppnbobdaaDoorW.PrintMore Go.Proofs.YtdepngppnbobdaaDoor.HCore

set_option maxRecDepth 100000 in
set_option maxHeartbeats 4000000 in
theorem one (k0 l0 : Int) (b0 a : ByteArray) (at0 x : Int) (w : World) (hT : Tab w) (hb : b0.size ≤ 140737488351232) (ha : a.size ≤ 140737488351232) (hat : -9223372036854775808 ≤ at0 ∧ at0 ≤ 9223372036854775807) (hx : 0 ≤ x ∧ x ≤ 255) :
    Calls Tryd.prog 4 #[.int .i64 k0, .int .u64 l0, .string b0, .string a, .int .i64 at0, .int .u8 x] w fun e w' => e = .returned (.bool true) ∧ Below w.heap.size w w' := by
  obtain ⟨k, b, hfr, hfit⟩ := framed_is k0 b0 (by omega)
  have hfm := hfit (nmb l0) (nmb_rng l0)
  obtain ⟨r1, r2, r3, r4, r5, r6⟩ := fit_rng _ _ _ hfm
  have HNm := Aside0.mk (nmb_is l0)
  have HFr := Aside0.mk hfr
  have hF := fr_of k (nmb l0) b hfm
  have HE : Aside0 (redo_EncodeFrame.f k (nmb l0) b = some (⟨(frl k (nmb l0) b).toArray⟩, 0)) := ⟨by unfold redo_EncodeFrame.f frF; rw [if_pos hfm]⟩
  generalize (⟨(frl k (nmb l0) b).toArray⟩ : ByteArray) = s at hF HE
  generalize nmb l0 = l at HNm hF HE hfm
  have hz := hF.size
  have hbz : b.size ≤ 131072 := by omega
  have HD : Aside0 (redo_DecodeFrame.f 9 (a ++ s) (a.size : Int) = some (k, l, b, (a.size : Int) + (s.size : Int), 0)) := ⟨by
    rw [prog_dec _ _ (by rw [size_app]; omega) 9 (by omega), dec_tail a s (by omega), back hF hfm, hz]
    rw [show (a.size : Int) + ((24 + b.size : Nat) : Int) = (a.size : Int) + 24 + (b.size : Int) by omega]⟩
  have HF := Aside0.mk hF
  have HM := Aside0.mk hfm
  have HZ := Aside0.mk hz
  have q1 : (24 + (b.size : Int)) = (s.size : Int) := by omega
  have c0 : (a.size + s.size ≤ 9223372036854775807) = True := eq_true (by omega)
  have c1 : (9223372036854775807 < a.size + s.size) = False := eq_false (by omega)
  have w1_ : wrap64 ((a.size : Int) + (s.size : Int)) = (a.size : Int) + (s.size : Int) := w64 (by omega) (by omega)
  have w2_ : wrap64 (24 + (b.size : Int)) = (s.size : Int) := by rw [q1]; exact w64 (by omega) (by omega)
  have hsz : s.size ≤ 131096 := by omega
  clear hfr hfit hfm hF hz q1 r1 r2 r3 r4 r5 r6 hb hbz
  have HB := Aside0.mk (Below.refl w.heap.size w)
  go_enter Tryd.func4, Tryd.ntmps4
  go_wp2_with fail
  refine (PFm.stratalaw11_framed.calls 9 k0 b0 k b _ HFr.out).mono ?_
  rintro e w1 ⟨rfl, hd⟩
  have HB := Aside0.mk (below_then HB.out (below_size HB.out) hd.below)
  clear hd
  go_wp2_with fail
  refine (PFm.stratalaw11_numbered.calls l0 l _ HNm.out).mono ?_
  rintro e w2 ⟨rfl, hd⟩
  have HB := Aside0.mk (below_then HB.out (below_size HB.out) hd.below)
  clear hd
  have HX := Aside0.mk (heap_alloc_new w2 (.cells #[.int .i64 k, .int .u64 l, .string b] 24))
  have HB := Aside0.mk (below_alloc HB.out (.cells #[.int .i64 k, .int .u64 l, .string b] 24))
  go_wp2_with fail
  generalize w2.heap.size = g at HX ⊢
  refine (redo_EncodeFrame.calls k l b s 0 _ HE.out (hT.below HB.out)).mono ?_
  rintro e w3 ⟨rfl, hb1⟩
  have HX := Aside0.mk ((hb1.block _ (blk_lt HX.out)).trans HX.out)
  have HB := Aside0.mk (below_then HB.out (below_size HB.out) hb1)
  clear hb1
  go_wp2_with fail
  refine (stratalaw11_num.calls 0 0 _ rfl).mono ?_
  rintro e w4 ⟨rfl, hd⟩
  have HX := Aside0.mk ((hd.below.block _ (blk_lt HX.out)).trans HX.out)
  have HB := Aside0.mk (below_then HB.out (below_size HB.out) hd.below)
  clear hd
  go_wp2_with fail
  refine (redo_DecodeFrame.calls 9 (a ++ s) a.size k l b ((a.size : Int) + (s.size : Int)) 0 _ HD.out (hT.below HB.out)).mono ?_
  rintro e w5 ⟨rfl, hb1⟩
  have HX := Aside0.mk ((hb1.block _ (blk_lt HX.out)).trans HX.out)
  have HB := Aside0.mk (below_then HB.out (below_size HB.out) hb1)
  clear hb1
  have HX := Aside0.mk ((heap_alloc_old w5 (.cells #[.int .i64 k, .int .u64 l, .string b] 24) (blk_lt HX.out)).trans HX.out)
  have HB := Aside0.mk (below_alloc HB.out (.cells #[.int .i64 k, .int .u64 l, .string b] 24))
  have x0 : _ = some (Value.int .i64 k) := (blk_cell HX.out 0).trans rfl
  have x1 : _ = some (Value.int .u64 l) := (blk_cell HX.out 1).trans rfl
  have x2 : _ = some (Value.string b) := (blk_cell HX.out 2).trans rfl
  go_upto_if 82 with fail
  (try simp only [Act.put, List.setIfInBounds_toArray, List.set_cons_zero, List.set_cons_succ])
  go_cut [4] (fun v4 wc => ∃ n : Nat, v4 = .int .i64 (n : Int) ∧ n ≤ 9223372036854775807 ∧ wc.heap[g]? = some (.cells #[.int .i64 k, .int .u64 l, .string b] 24 (0, 0)) ∧ Below w.heap.size w wc)
  case first =>
    by_cases hneg : at0 < 0
    · have d0 : decide (at0 < 0) = true := decide_eq_true hneg
      go_wp2
      go_meet
      case rel => exact ⟨0, rfl, by decide, HX.out, HB.out⟩
    · have d0 : decide (at0 < 0) = false := decide_eq_false hneg
      go_wp2
      go_meet
      case rel => exact ⟨at0.toNat, by rw [Int.toNat_of_nonneg (by omega)], by omega, HX.out, HB.out⟩
  case rest =>
    obtain ⟨n, rfl, hn, hX, hB⟩ := hcut
    clear hX HX x0 x1 x2 HD HE HNm HFr
    have HB := Aside0.mk hB
    clear hB
    have hzs : 24 ≤ s.size := by have := HZ.out; omega
    obtain ⟨m, hm1, hm2⟩ : ∃ m : Nat, (n : Int) % (s.size : Int) = (m : Int) ∧ m < s.size := ⟨n % s.size, rfl, Nat.mod_lt _ (by omega)⟩
    have hs0 : ((s.size : Int) = 0) = False := eq_false (by omega)
    have hs1 : (s.size = 0) = False := eq_false (by omega)
    have hs2 : decide ((s.size : Int) = 0) = false := decide_eq_false (by omega)
    have hs3 : ((s.size : Int) == 0) = false := beq_eq_false_iff_ne.2 (by omega)
    have hs4 : (s = ByteArray.empty) = False := eq_false (fun h => by rw [h] at hzs; exact absurd hzs (by decide))
    have HC : Aside0 (redo_DecodeFrame.f 9 (a ++ s.extract 0 m) (a.size : Int) = some (0, 0, (⟨#[]⟩ : ByteArray), (a.size : Int), 1)) := ⟨by
      rw [prog_dec _ _ (by rw [size_app, ext_size0 s m (by omega)]; omega) 9 (by omega), cut_short a HF.out HM.out m hm2]⟩
    go_upto_region 12 with fail
    rw [hm1]
    clear hm1 hs0 hs1 hs2 hs3 hs4 hzs
    have p1 : ((m : Int) ≤ (s.size : Int)) = True := eq_true (by omega)
    have p2 : (m ≤ s.size) = True := eq_true (by omega)
    have f0 : (9223372036854775807 < a.size + (s.extract 0 m).size) = False := eq_false (by rw [ext_size0 s m (by omega)]; omega)
    have f1 : (9223372036854775807 < a.size + min m s.size) = False := eq_false (by omega)
    have f2 : (9223372036854775807 < a.size + m) = False := eq_false (by omega)
    go_wp2_with fail
    refine (redo_DecodeFrame.calls 9 (a ++ s.extract 0 m) a.size 0 0 ⟨#[]⟩ a.size 1 _ HC.out (hT.below HB.out)).mono ?_
    rintro e w6 ⟨rfl, hb1⟩
    have HB := Aside0.mk (below_then HB.out (below_size HB.out) hb1)
    clear hb1
    have HB := Aside0.mk (below_alloc HB.out (.cells #[.int .i64 0, .int .u64 0, .string (⟨#[]⟩ : ByteArray)] 24))
    by_cases hx0 : x = 0
    · subst hx0
      go_wp2_with fail
      go_ret
      exact ⟨rfl, HB.out⟩
    · have hxb : (x == 0) = false := beq_eq_false_iff_ne.2 hx0
      go_upto_region 17 with fail
      have hr := bt_rng s (m : Int)
      obtain ⟨Y, hY⟩ : ∃ Y, Go.bits .xor .u8 (bt s (m : Int)) x = Y := ⟨_, rfl⟩
      have hY2 : Y = (((bt s (m : Int)).toNat ^^^ x.toNat : Nat) : Int) := by rw [← hY]; exact u8_xor _ _ hr.1 (by omega) hx.1 (by omega)
      obtain ⟨yl, hyl⟩ : ∃ yl : List Int, yl = [Y] := ⟨_, rfl⟩
      have NY := Aside0.mk hyl
      have z1 : (strOfNums yl).size = 1 := by rw [strOfNums_len, hyl]; rfl
      have HY2 := Aside0.mk hY2
      have HYx := Aside0.mk hY
      clear hyl hY2 hr hY
      have hxm : ∀ h : m < s.size, ((s[m]'h).toNat : Int) = bt s (m : Int) := fun h => bt_at s (m : Int) h
      have q1 : (m < s.size) = True := eq_true hm2
      have q2 : ((m : Int) < (s.size : Int)) = True := eq_true (by omega)
      have q3 : ((m : Int) + 1 ≤ (s.size : Int)) = True := eq_true (by omega)
      have q4 : (m + 1 ≤ s.size) = True := eq_true (by omega)
      have q5 : (0 ≤ (m : Int) + 1) = True := eq_true (by omega)
      have w5_ : wrap64 ((m : Int) + 1) = (m : Int) + 1 := w64 (by omega) (by omega)
      have e0 := ext_size0 s m (by omega)
      have e1 := ext_size1 s (m + 1)
      have g0 : (9223372036854775807 < (s.extract 0 m).size + (strOfNums yl).size) = False := eq_false (by omega)
      have g1 : (9223372036854775807 < min m s.size + (strOfNums yl).size) = False := eq_false (by omega)
      have g2 : (9223372036854775807 < m + (strOfNums yl).size) = False := eq_false (by omega)
      have g3 : (9223372036854775807 < (s.extract 0 m ++ strOfNums yl).size + (s.extract (m + 1) s.size).size) = False := eq_false (by rw [size_app]; omega)
      have g4 : (9223372036854775807 < min m s.size + (strOfNums yl).size + (s.size - (m + 1))) = False := eq_false (by omega)
      have g5 : (9223372036854775807 < m + (strOfNums yl).size + (s.size - (m + 1))) = False := eq_false (by omega)
      have Z1 := Aside0.mk z1
      have E0 := Aside0.mk e0
      have E1 := Aside0.mk e1
      clear z1 e0 e1
      refine start_ (n := 17) (S := fun w' => True) (ds := []) #[false, false, false, false, false, false, false, false, false, false, false, false, false, false, false, false, false] (by kernel_rfl) rfl rfl trivial (fun hHeld => ?_)
      have HB := Aside0.mk (below_drew HB.out)
      generalize (World.alloc w6 _).drew = w8 at HB ⊢
      refine pure_ (i := 0) (N := some 109) (v := ?_) (a' := ?_) #[true, false, false, false, false, false, false, false, false, false, false, false, false, false, false, false, false] rfl rfl (by kernel_rfl) (fun _ _ _ h => h) (Or.inl ⟨by rfl, ?_⟩) ?_ ?_
      rotate_left
      · intro w'
        go_simp
        with_reducible rfl
      rotate_left
      · simp only [Act.put, List.setIfInBounds_toArray, List.set_cons_zero, List.set_cons_succ, i64_w, i32_w]
        rfl
      refine pure_ (i := 1) (N := some 110) (v := ?_) (a' := ?_) #[true, true, false, false, false, false, false, false, false, false, false, false, false, false, false, false, false] rfl rfl (by kernel_rfl) (fun _ _ _ h => h) (Or.inl ⟨by rfl, ?_⟩) ?_ ?_
      rotate_left
      · intro w'
        go_simp
        with_reducible rfl
      rotate_left
      · simp only [Act.put, List.setIfInBounds_toArray, List.set_cons_zero, List.set_cons_succ, i64_w, i32_w]
        rfl
      refine pure_ (i := 2) (N := some 111) (v := ?_) (a' := ?_) #[true, true, true, false, false, false, false, false, false, false, false, false, false, false, false, false, false] rfl rfl (by kernel_rfl) (fun _ _ _ h => h) (Or.inl ⟨by rfl, ?_⟩) ?_ ?_
      rotate_left
      · intro w'
        go_simp
        with_reducible rfl
      rotate_left
      · simp only [Act.put, List.setIfInBounds_toArray, List.set_cons_zero, List.set_cons_succ, i64_w, i32_w]
        rfl
      refine pure_ (i := 3) (N := some 112) (v := ?_) (a' := ?_) #[true, true, true, true, false, false, false, false, false, false, false, false, false, false, false, false, false] rfl rfl (by kernel_rfl) (fun _ _ _ h => h) (Or.inl ⟨by rfl, ?_⟩) ?_ ?_
      rotate_left
      · intro w'
        go_simp
        with_reducible rfl
      rotate_left
      · simp only [Act.put, List.setIfInBounds_toArray, List.set_cons_zero, List.set_cons_succ, i64_w, i32_w]
        rfl
      refine pure_ (i := 4) (N := some 113) (v := ?_) (a' := ?_) #[true, true, true, true, true, false, false, false, false, false, false, false, false, false, false, false, false] rfl rfl (by kernel_rfl) (fun _ _ _ h => h) (Or.inl ⟨by rfl, ?_⟩) ?_ ?_
      rotate_left
      · intro w'
        go_simp
        with_reducible rfl
      rotate_left
      · simp only [Act.put, List.setIfInBounds_toArray, List.set_cons_zero, List.set_cons_succ, i64_w, i32_w]
        rfl
      refine pure_ (i := 5) (N := some 114) (v := ?_) (a' := ?_) #[true, true, true, true, true, true, false, false, false, false, false, false, false, false, false, false, false] rfl rfl (by kernel_rfl) (fun _ _ _ h => h) (Or.inl ⟨by rfl, ?_⟩) ?_ ?_
      rotate_left
      · intro w'
        go_simp
        with_reducible rfl
      rotate_left
      · simp only [Act.put, List.setIfInBounds_toArray, List.set_cons_zero, List.set_cons_succ, i64_w, i32_w]
        rfl
      refine pure_ (i := 6) (N := some 115) (v := ?_) (a' := ?_) #[true, true, true, true, true, true, true, false, false, false, false, false, false, false, false, false, false] rfl rfl (by kernel_rfl) (fun _ _ _ h => h) (Or.inl ⟨by rfl, ?_⟩) ?_ ?_
      rotate_left
      · intro w'
        go_simp
        with_reducible rfl
      rotate_left
      · simp only [Act.put, List.setIfInBounds_toArray, List.set_cons_zero, List.set_cons_succ, i64_w, i32_w]
        rfl
      refine pure_ (i := 7) (N := some 116) (v := ?_) (a' := ?_) #[true, true, true, true, true, true, true, true, false, false, false, false, false, false, false, false, false] rfl rfl (by kernel_rfl) (fun _ _ _ h => h) (Or.inl ⟨by rfl, ?_⟩) ?_ ?_
      rotate_left
      · intro w'
        go_simp
        with_reducible rfl
      rotate_left
      · simp only [Act.put, List.setIfInBounds_toArray, List.set_cons_zero, List.set_cons_succ, i64_w, i32_w]
        rfl
      simp only [HYx.out]
      refine pure_ (i := 11) (N := some 120) (v := ?_) (a' := ?_) #[true, true, true, true, true, true, true, true, false, false, false, true, false, false, false, false, false] rfl rfl (by kernel_rfl) (fun _ _ _ h => h) (Or.inl ⟨by rfl, ?_⟩) ?_ ?_
      rotate_left
      · intro w'
        go_simp
        with_reducible rfl
      rotate_left
      · simp only [Act.put, List.setIfInBounds_toArray, List.set_cons_zero, List.set_cons_succ, i64_w, i32_w]
        rfl
      refine pure_ (i := 12) (N := some 121) (v := ?_) (a' := ?_) #[true, true, true, true, true, true, true, true, false, false, false, true, true, false, false, false, false] rfl rfl (by kernel_rfl) (fun _ _ _ h => h) (Or.inl ⟨by rfl, ?_⟩) ?_ ?_
      rotate_left
      · intro w'
        go_simp
        with_reducible rfl
      rotate_left
      · simp only [Act.put, List.setIfInBounds_toArray, List.set_cons_zero, List.set_cons_succ, i64_w, i32_w]
        rfl
      refine pure_ (i := 13) (N := some 122) (v := ?_) (a' := ?_) #[true, true, true, true, true, true, true, true, false, false, false, true, true, true, false, false, false] rfl rfl (by kernel_rfl) (fun _ _ _ h => h) (Or.inl ⟨by rfl, ?_⟩) ?_ ?_
      rotate_left
      · intro w'
        go_simp
        with_reducible rfl
      rotate_left
      · simp only [Act.put, List.setIfInBounds_toArray, List.set_cons_zero, List.set_cons_succ, i64_w, i32_w]
        rfl
      refine pure_ (i := 14) (N := some 123) (v := ?_) (a' := ?_) #[true, true, true, true, true, true, true, true, false, false, false, true, true, true, true, false, false] rfl rfl (by kernel_rfl) (fun _ _ _ h => h) (Or.inl ⟨by rfl, ?_⟩) ?_ ?_
      rotate_left
      · intro w'
        go_simp
        with_reducible rfl
      rotate_left
      · simp only [Act.put, List.setIfInBounds_toArray, List.set_cons_zero, List.set_cons_succ, i64_w, i32_w]
        rfl
      refine one_ (i := 8) (N := some 117) #[true, true, true, true, true, true, true, true, true, false, false, true, true, true, true, false, false] rfl rfl (by kernel_rfl) (by decide) (fun K hK => ?_)
      refine Kd.R_lit_step (Kd.int .u8) _ 5 ?hg (N := 117) ?hd (xs := ([Y] : List Int)) (inner := [.int .u8 Y]) (ok := fun _ => True) (okp := fun _ => True) ?hr ?hp (fun _ hk => hk) trivial (Below.refl _ _) (Nat.le_refl _) (by simp) ?_; (case hd => rfl); (case hg => rfl); (case hr => first | (go_simp; done) | (go_simp; rfl)); (case hp => exact (Reps.one (show Kd.M (Kd.int .u8) _ _ _ Y [.int .u8 Y] from rfl) (Reps.none _ _)))
      intro v113 w9 ho hb hg_ hnew_
      clear hg_ hnew_
      rw [← NY.out] at ho
      have HO := Aside0.mk ho
      have HB := Aside0.mk (below_then HB.out (below_size HB.out) hb)
      clear ho hb
      refine hK.out _ _ trivial (fun hHeld => ?_)
      clear hK K
      refine norm_ (a' := ?_) ?_ ?_
      rotate_left
      · show Act.put _ (some 117) _ = _
        simp only [Act.put, List.setIfInBounds_toArray, List.set_cons_zero, List.set_cons_succ, i64_w, i32_w]
        rfl
      refine one_ (i := 9) (N := some 118) #[true, true, true, true, true, true, true, true, true, true, false, true, true, true, true, false, false] rfl rfl (by kernel_rfl) (by decide) (fun K hK => ?_)
      have hcv := own_string (P := Tryd.prog) Tryd.underlying37 Tryd.underlying5 Tryd.underlying9 (Kd.own_of_R HO.out)
      refine value_ (w1 := ?_) (v := ?_) (by rfl) rfl ?_ ?_
      rotate_left 2
      · go_simp
        constructor
        · rfl
        · rfl
      clear hcv
      refine hK.out _ _ trivial (fun hHeld => ?_)
      clear hK K
      refine norm_ (a' := ?_) ?_ ?_
      rotate_left
      · show Act.put _ (some 118) _ = _
        simp only [Act.put, List.setIfInBounds_toArray, List.set_cons_zero, List.set_cons_succ, i64_w, i32_w]
        rfl
      refine pure_ (i := 10) (N := some 119) (v := ?_) (a' := ?_) #[true, true, true, true, true, true, true, true, true, true, true, true, true, true, true, false, false] rfl rfl (by kernel_rfl) (fun _ _ _ h => h) (Or.inl ⟨by rfl, ?_⟩) ?_ ?_
      rotate_left
      · intro w'
        go_simp
        with_reducible rfl
      rotate_left
      · simp only [Act.put, List.setIfInBounds_toArray, List.set_cons_zero, List.set_cons_succ, i64_w, i32_w]
        rfl
      refine pure_ (i := 15) (N := some 124) (v := ?_) (a' := ?_) #[true, true, true, true, true, true, true, true, true, true, true, true, true, true, true, true, false] rfl rfl (by kernel_rfl) (fun _ _ _ h => h) (Or.inl ⟨by rfl, ?_⟩) ?_ ?_
      rotate_left
      · intro w'
        go_simp
        with_reducible rfl
      rotate_left
      · simp only [Act.put, List.setIfInBounds_toArray, List.set_cons_zero, List.set_cons_succ, i64_w, i32_w]
        rfl
      refine pure_ (i := 16) (N := some 24) (v := ?_) (a' := ?_) #[true, true, true, true, true, true, true, true, true, true, true, true, true, true, true, true, true] rfl rfl (by kernel_rfl) (fun _ _ _ h => h) (Or.inl ⟨by rfl, ?_⟩) ?_ ?_
      rotate_left
      · intro w'
        go_simp
        with_reducible rfl
      rotate_left
      · simp only [Act.put, List.setIfInBounds_toArray, List.set_cons_zero, List.set_cons_succ, i64_w, i32_w]
        rfl
      refine done_ (by kernel_rfl) ?_
      have h0 : (9223372036854775807 < a.size + (s.extract 0 m ++ strOfNums yl ++ s.extract (m + 1) s.size).size) = False := eq_false (by rw [size_app, size_app]; have := Z1.out; have := E0.out; have := E1.out; omega)
      have h1 : (9223372036854775807 < a.size + (min m s.size + (strOfNums yl).size + (s.size - (m + 1)))) = False := eq_false (by have := Z1.out; omega)
      have h2 : (9223372036854775807 < a.size + (m + (strOfNums yl).size + (s.size - (m + 1)))) = False := eq_false (by have := Z1.out; omega)
      go_wp2_with fail
      obtain ⟨y, hl, hne⟩ := bad_of s m hm2 x Y hx0 hx HY2.out yl NY.out
      have hsz2 : (s.extract 0 m ++ strOfNums yl ++ s.extract (m + 1) s.size).size ≤ 131096 := by rw [← size_list, hl, List.length_set, size_list]; exact hsz
      generalize (s.extract 0 m ++ strOfNums yl ++ s.extract (m + 1) s.size) = bad at hl hsz2 ⊢
      obtain ⟨t5, t4⟩ := turned_at a HF.out m y (by rw [size_list]; exact hm2) hl (hne _)
      have HDb : Aside0 (redo_DecodeFrame.f 9 (a ++ bad) (a.size : Int) = some ((decF (a ++ bad) a.size).1, (decF (a ++ bad) a.size).2.1, (decF (a ++ bad) a.size).2.2.1, (decF (a ++ bad) a.size).2.2.2.1, (decF (a ++ bad) a.size).2.2.2.2)) := ⟨prog_dec _ _ (by rw [size_app]; omega) 9 (by omega)⟩
      rw [t4] at HDb
      generalize (decF (a ++ bad) a.size).1 = d1 at HDb
      generalize (decF (a ++ bad) a.size).2.1 = d2 at HDb
      generalize (decF (a ++ bad) a.size).2.2.1 = d3 at HDb
      generalize (decF (a ++ bad) a.size).2.2.2.2 = d5 at HDb t5
      have hd5 : (d5 != 0) = true := bne_iff_ne.2 t5
      clear t4 t5 hl hne hsz2
      refine (redo_DecodeFrame.calls 9 (a ++ bad) a.size d1 d2 d3 a.size d5 _ HDb.out (hT.below HB.out)).mono ?_
      rintro e w10 ⟨rfl, hb1⟩
      have HB := Aside0.mk (below_then HB.out (below_size HB.out) hb1)
      clear hb1
      have HB := Aside0.mk (below_alloc HB.out (.cells #[.int .i64 d1, .int .u64 d2, .string d3] 24))
      go_wp2_with fail
      go_ret
      exact ⟨rfl, HB.out⟩
theorem walk (a0 a1 : Int) (a2 a3 : ByteArray) (a4 a5 : Int) (w : World) (w0 : (Lit.int .i64 a0).wf = true) (w1 : (Lit.int .u64 a1).wf = true) (w2 : a2.size ≤ 140737488351232) (w3 : a3.size ≤ 140737488351232) (w4 : (Lit.int .i64 a4).wf = true) (w5 : (Lit.int .u8 a5).wf = true) (hT : Tab w) :
    Calls Tryd.prog 4 #[.int .i64 a0, .int .u64 a1, .string a2, .string a3, .int .i64 a4, .int .u8 a5] w fun e w' => e = .returned (.bool true) ∧ Below w.heap.size w w' :=
  one a0 a1 a2 a3 a4 a5 w hT w2 w3 (rng_i64 w4) (rng_u8 w5)
end Go.Proofs.YtdepngppnbobdaaDoor.HOneW
