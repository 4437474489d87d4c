-- Written by the kit's print.py, called by xprint.py (a helper of this repo); some functions are taken from texts of this seat that were proved by hand.
import Derived.Test.YtdepngppnbobdaaDoorPFrx0
import Derived.Test.YtdepngppnbobdaaDoorPFrx1
namespace Go.Proofs.YtdepngppnbobdaaDoor.PFr
open Go.RowKit Go.Proofs.YtdepngppnbobdaaDoor.HBase Go.Proofs.YtdepngppnbobdaaDoor.HSum Go.Proofs.YtdepngppnbobdaaDoorW.PrintWords Go.Proofs.YtdepngppnbobdaaDoorW.PrintLast Go.Proofs.YtdepngppnbobdaaDoorW.PrintMore
attribute [local go_sem] max2_int min2_int max_two min_two max_three min_three max_four min_four   -- for this text's walks alone
set_option linter.unusedVariables false
set_option linter.unusedSimpArgs false

/-! ### strataref11_DecodeFrame: function 13 -/
mutual
def strataref11_DecodeFrame.j0 : Nat → ByteArray → Int → Bool → Option (Int × Int × ByteArray × Int × Int)
  | 0, _, _, _ => none
  | k + 1, x0, x1, x38 => if x38 = true then (some (0, 0, (⟨#[]⟩ : ByteArray), x1, 1)) else (if 0 ≤ x1 then (if x1 ≤ (wrap64 (x1 + 24)) then (if (wrap64 (x1 + 24)) ≤ (x0.size : Int) then (if 0 ≤ 2 then (if 2 ≤ ((x0.extract (x1 : Int).toNat ((wrap64 (x1 + 24)) : Int).toNat).size : Int) then (if ((x0.extract (x1 : Int).toNat ((wrap64 (x1 + 24)) : Int).toNat).extract 0 2).toList = ([83, 70] : List UInt8) then ((strataref01_ReadFixed32.f (x0.extract (x1 : Int).toNat ((wrap64 (x1 + 24)) : Int).toNat) 20).bind fun bt143 => (if 0 ≤ 20 then (if 20 ≤ ((x0.extract (x1 : Int).toNat ((wrap64 (x1 + 24)) : Int).toNat).size : Int) then ((strataref11_sum.f k ((x0.extract (x1 : Int).toNat ((wrap64 (x1 + 24)) : Int).toNat).extract 0 20)).bind fun t146 => (if bt143.1 = t146 then ((strataref01_ReadFixed32.f (x0.extract (x1 : Int).toNat ((wrap64 (x1 + 24)) : Int).toNat) 4).bind fun bt147 => ((strataref01_ReadFixed64.f (x0.extract (x1 : Int).toNat ((wrap64 (x1 + 24)) : Int).toNat) 8).bind fun bt150 => (if 2 < ((x0.extract (x1 : Int).toNat ((wrap64 (x1 + 24)) : Int).toNat).size : Int) then ((strataref11_frameMay.f k (wrap64 (bt (x0.extract (x1 : Int).toNat ((wrap64 (x1 + 24)) : Int).toNat) 2)) bt150.1 (wrap64 (bt147.1))).bind fun t153 => (if t153 = true then (if 3 < ((x0.extract (x1 : Int).toNat ((wrap64 (x1 + 24)) : Int).toNat).size : Int) then (strataref11_DecodeFrame.j1 k x0 x1 (x0.extract (x1 : Int).toNat ((wrap64 (x1 + 24)) : Int).toNat) bt147.1 bt150.1 (wrap64 (bt (x0.extract (x1 : Int).toNat ((wrap64 (x1 + 24)) : Int).toNat) 2)) ((bt (x0.extract (x1 : Int).toNat ((wrap64 (x1 + 24)) : Int).toNat) 3) != 0)) else (none)) else (strataref11_DecodeFrame.j1 k x0 x1 (x0.extract (x1 : Int).toNat ((wrap64 (x1 + 24)) : Int).toNat) bt147.1 bt150.1 (wrap64 (bt (x0.extract (x1 : Int).toNat ((wrap64 (x1 + 24)) : Int).toNat) 2)) true))) else (none)))) else (some (0, 0, (⟨#[]⟩ : ByteArray), x1, 3)))) else (none)) else (none))) else (some (0, 0, (⟨#[]⟩ : ByteArray), x1, 2))) else (none)) else (none)) else (none)) else (none)) else (none))
def strataref11_DecodeFrame.j1 : Nat → ByteArray → Int → ByteArray → Int → Int → Int → Bool → Option (Int × Int × ByteArray × Int × Int)
  | 0, _, _, _, _, _, _, _ => none
  | k + 1, x0, x1, x7, x11, x14, x17, x90 => if x90 = true then (some (0, 0, (⟨#[]⟩ : ByteArray), x1, 4)) else (if (wrap64 ((wrap64 (x1 + 24)) + (wrap64 (x11)))) > (x0.size : Int) then (some (0, 0, (⟨#[]⟩ : ByteArray), x1, 1)) else (if 0 ≤ (wrap64 (x1 + 24)) then (if (wrap64 (x1 + 24)) ≤ (wrap64 ((wrap64 (x1 + 24)) + (wrap64 (x11)))) then (if (wrap64 ((wrap64 (x1 + 24)) + (wrap64 (x11)))) ≤ (x0.size : Int) then ((strataref01_ReadFixed32.f x7 16).bind fun bt154 => ((strataref11_sum.f k (x0.extract ((wrap64 (x1 + 24)) : Int).toNat ((wrap64 ((wrap64 (x1 + 24)) + (wrap64 (x11)))) : Int).toNat)).bind fun t157 => (if bt154.1 = t157 then (some (x17, x14, x0.extract ((wrap64 (x1 + 24)) : Int).toNat ((wrap64 ((wrap64 (x1 + 24)) + (wrap64 (x11)))) : Int).toNat, wrap64 ((wrap64 (x1 + 24)) + (wrap64 (x11))), 0)) else (some (0, 0, (⟨#[]⟩ : ByteArray), x1, 5))))) else (none)) else (none)) else (none)))
end
def strataref11_DecodeFrame.f (k : Nat) (a0 : ByteArray) (a1 : Int) : Option (Int × Int × ByteArray × Int × Int) := if a1 < 0 then (strataref11_DecodeFrame.j0 k a0 a1 true) else (if a1 > (a0.size : Int) then (strataref11_DecodeFrame.j0 k a0 a1 true) else (strataref11_DecodeFrame.j0 k a0 a1 (decide ((wrap64 ((a0.size : Int) - a1)) < 24))))
theorem strataref11_DecodeFrame.mono_l : ∀ k, (∀ y0 y1 y2, LeO (strataref11_DecodeFrame.j0 k y0 y1 y2) (strataref11_DecodeFrame.j0 (k + 1) y0 y1 y2)) ∧ (∀ y0 y1 y2 y3 y4 y5 y6, LeO (strataref11_DecodeFrame.j1 k y0 y1 y2 y3 y4 y5 y6) (strataref11_DecodeFrame.j1 (k + 1) y0 y1 y2 y3 y4 y5 y6))
  | 0 => ⟨fun _ _ _ r h => by simp [strataref11_DecodeFrame.j0] at h, fun _ _ _ _ _ _ _ r h => by simp [strataref11_DecodeFrame.j1] at h⟩
  | k + 1 => by
    obtain ⟨ih0, ih1⟩ := strataref11_DecodeFrame.mono_l k
    refine ⟨?_, ?_⟩
    · intro y0 y1 y2
      unfold strataref11_DecodeFrame.j0
      repeat' first
      | (with_reducible exact ih0 _ _ _)
      | (with_reducible exact ih1 _ _ _ _ _ _ _)
      | (with_reducible exact strataref11_frameMay.mono _ _ _ _)
      | (with_reducible exact strataref11_sum.mono _ _)
      | (with_reducible exact LeO.refl _)
      | (with_reducible exact LeO.none _)
      | (with_reducible refine LeO.ite ?_ ?_)
      | (with_reducible refine LeO.bind ?_ (fun _ => ?_))
      | exact ih0 _ _ _
      | exact ih1 _ _ _ _ _ _ _
      | exact strataref11_frameMay.mono _ _ _ _
      | exact strataref11_sum.mono _ _
      | exact LeO.none _
      | refine LeO.ite ?_ ?_
      | refine LeO.bind ?_ (fun _ => ?_)
    · intro y0 y1 y2 y3 y4 y5 y6
      unfold strataref11_DecodeFrame.j1
      repeat' first
      | (with_reducible exact ih0 _ _ _)
      | (with_reducible exact ih1 _ _ _ _ _ _ _)
      | (with_reducible exact strataref11_frameMay.mono _ _ _ _)
      | (with_reducible exact strataref11_sum.mono _ _)
      | (with_reducible exact LeO.refl _)
      | (with_reducible exact LeO.none _)
      | (with_reducible refine LeO.ite ?_ ?_)
      | (with_reducible refine LeO.bind ?_ (fun _ => ?_))
      | exact ih0 _ _ _
      | exact ih1 _ _ _ _ _ _ _
      | exact strataref11_frameMay.mono _ _ _ _
      | exact strataref11_sum.mono _ _
      | exact LeO.none _
      | refine LeO.ite ?_ ?_
      | refine LeO.bind ?_ (fun _ => ?_)
theorem strataref11_DecodeFrame.mono : ∀ a0 a1 k, LeO (strataref11_DecodeFrame.f k a0 a1) (strataref11_DecodeFrame.f (k + 1) a0 a1) := by
  intro a0 a1 k
  obtain ⟨ih0, ih1⟩ := strataref11_DecodeFrame.mono_l k
  unfold strataref11_DecodeFrame.f
  repeat' first
      | (with_reducible exact ih0 _ _ _)
      | (with_reducible exact ih1 _ _ _ _ _ _ _)
      | (with_reducible exact strataref11_frameMay.mono _ _ _ _)
      | (with_reducible exact strataref11_sum.mono _ _)
      | (with_reducible exact LeO.refl _)
      | (with_reducible exact LeO.none _)
      | (with_reducible refine LeO.ite ?_ ?_)
      | (with_reducible refine LeO.bind ?_ (fun _ => ?_))
      | exact ih0 _ _ _
      | exact ih1 _ _ _ _ _ _ _
      | exact strataref11_frameMay.mono _ _ _ _
      | exact strataref11_sum.mono _ _
      | exact LeO.none _
      | refine LeO.ite ?_ ?_
      | refine LeO.bind ?_ (fun _ => ?_)
set_option maxHeartbeats 8000000 in
set_option maxRecDepth 100000 in
theorem strataref11_DecodeFrame.calls (k : Nat) (a0 : ByteArray) (a1 : Int) (r1 : Int) (r2 : Int) (r3 : ByteArray) (r4 : Int) (r5 : Int) (w : World) (h : strataref11_DecodeFrame.f k a0 a1 = some (r1, r2, r3, r4, r5)) :
    Calls Tryd.prog 13 #[.string a0, .int .i64 a1] w fun e w' => e = .returned (.tuple #[.agg #[.int .i64 r1, .int .u64 r2, .string r3], .int .i64 r4, .int .i64 r5]) ∧ Below w.heap.size w w' := by
  have hu24 := Tryd.underlying24
  have HB := Aside0.mk (Below.refl w.heap.size w)
  have H : (if a1 < 0 then (strataref11_DecodeFrame.j0 k a0 a1 true) else (if a1 > (a0.size : Int) then (strataref11_DecodeFrame.j0 k a0 a1 true) else (strataref11_DecodeFrame.j0 k a0 a1 (decide ((wrap64 ((a0.size : Int) - a1)) < 24))))) = some (r1, r2, r3, r4, r5) := h
  clear h
  have HC3 := Aside0.mk H
  clear H
  go_enter Tryd.func13, Tryd.ntmps13
  go_upto_region 1 with (first | ((with_reducible refine gate_dst (N := 4) rfl ?_); (try (refine gate_guard (by rfl) ?_; dsimp only)); refine box_event ?hg (N := 4) ?hd (cs := #[.int .i64 0, .int .u64 0, .string (⟨#[]⟩ : ByteArray)]) (t := 24) ?hr ?_; (case hd => rfl); (case hg => rfl); (case hr => first | (go_simp; done) | (go_simp; rfl)); intro gb142 hg w4 hbox hb; have n0_ := Aside0.mk (below_step (by repeat (first | (with_reducible first | exact HB.out | apply below_alloc | apply pw_below_drewN | apply below_drew1) | exact HB.out)) hb); have n1_ := Aside0.mk (hbox); have n2_ := Aside0.mk ((by rw [hg]; exact (below_size (by repeat (first | (with_reducible first | exact HB.out | apply below_alloc | apply pw_below_drewN | apply below_drew1) | exact HB.out))) : w.heap.size ≤ gb142)); have n3_ := Aside0.mk ((by rw [hg]; exact (below_size (by repeat (first | (with_reducible first | exact HB.out | apply below_alloc | apply pw_below_drewN | apply below_drew1) | exact HB.out))) : w.heap.size ≤ gb142)); clear HB; have HB := n0_; have BK142 := n1_; have GW142 := n2_; have GE142 := n3_; clear n0_ n1_ n2_ n3_; clear hb hbox hg))
  (try simp only [Act.put, List.setIfInBounds_toArray, List.set_cons_zero, List.set_cons_succ])
  go_cut [38] (fun v38 wc => ∃ (kq : Nat) (x38_2 : Bool), v38 = .bool x38_2 ∧ Aside0 (strataref11_DecodeFrame.j0 kq a0 a1 x38_2 = some (r1, r2, r3, r4, r5)) ∧ Aside0 (kq ≤ k) ∧ Aside0 (wc.heap[gb142]? = some (.cells #[.int .i64 0, .int .u64 0, .string (⟨#[]⟩ : ByteArray)] 24 (0, 0))) ∧ Aside0 (Below w.heap.size w wc))
  case first =>
    have H := HC3.out
    clear HC3
    by_cases c5 : a1 < 0
    · rw [if_pos c5] at H
      have c5b0 : decide (a1 < 0) = true := decide_eq_true c5
      clear c5
      (first | rw [c5b0] | (simp only [i64_w, i32_w]; rw [c5b0]) | skip)
      have H' := Aside0.mk H
      clear H
      go_wp2
      go_meet
      case rel => exact ⟨_, (true), (by first | rfl | (simp; done) | (simp [*]; done)), H', ⟨by first | omega | exact Nat.le_refl _⟩, ⟨by (with_reducible repeat (first | refine blk_drewN ?_ _ | refine blk_drew ?_ | refine blk_alloc ?_ _)); exact BK142.out⟩, ⟨by repeat (first | (with_reducible first | exact HB.out | apply below_alloc | apply pw_below_drewN | apply below_drew1 | refine below_set ?_ GE142.out) | exact HB.out)⟩⟩
    · rw [if_neg c5] at H
      have c5b0 : decide (a1 < 0) = false := decide_eq_false c5
      clear c5
      (first | rw [c5b0] | (simp only [i64_w, i32_w]; rw [c5b0]) | skip)
      by_cases c6 : a1 > (a0.size : Int)
      · rw [if_pos c6] at H
        have c6b0 : decide ((a0.size : Int) < a1) = true := decide_eq_true c6
        clear c6
        have H' := Aside0.mk H
        clear H
        go_wp2
        go_meet
        case rel => exact ⟨_, (true), (by first | rfl | (simp; done) | (simp [*]; done)), H', ⟨by first | omega | exact Nat.le_refl _⟩, ⟨by (with_reducible repeat (first | refine blk_drewN ?_ _ | refine blk_drew ?_ | refine blk_alloc ?_ _)); exact BK142.out⟩, ⟨by repeat (first | (with_reducible first | exact HB.out | apply below_alloc | apply pw_below_drewN | apply below_drew1 | refine below_set ?_ GE142.out) | exact HB.out)⟩⟩
      · rw [if_neg c6] at H
        have c6b0 : decide ((a0.size : Int) < a1) = false := decide_eq_false c6
        clear c6
        have H' := Aside0.mk H
        clear H
        go_wp2
        go_meet
        case rel => exact ⟨_, (decide ((wrap64 ((a0.size : Int) - a1)) < 24)), (by first | rfl | (simp; done) | (simp [*]; done)), H', ⟨by first | omega | exact Nat.le_refl _⟩, ⟨by (with_reducible repeat (first | refine blk_drewN ?_ _ | refine blk_drew ?_ | refine blk_alloc ?_ _)); exact BK142.out⟩, ⟨by repeat (first | (with_reducible first | exact HB.out | apply below_alloc | apply pw_below_drewN | apply below_drew1 | refine below_set ?_ GE142.out) | exact HB.out)⟩⟩
  case rest =>
    clear HC3
    try clear c1
    try clear p2
    try clear c5
    try clear c5b0
    try clear c6
    try clear c6b0
    try clear p6
    obtain ⟨kq, x38_2, rfl, HA, HJ2, BK142, HB⟩ := hcut
    cases kq with
    | zero => exact absurd HA.out (by simp [strataref11_DecodeFrame.j0])
    | succ kj2 =>
      have H := HA.out
      clear HA
      simp only [strataref11_DecodeFrame.j0] at H
      by_cases c7 : x38_2 = true
      · subst c7
        have H1 : (some (0, 0, (⟨#[]⟩ : ByteArray), a1, 1)) = some (r1, r2, r3, r4, r5) := by rw [if_pos rfl] at H; exact H
        clear H
        have H := H1
        clear H1
        simp only [Option.some.injEq, Prod.mk.injEq] at H
        obtain ⟨rfl, rfl, rfl, rfl, rfl⟩ := H
        have hcz8_0 : wc.cell? ⟨gb142, 0, none⟩ = some (.int .i64 0) := (blk_cell BK142.out 0).trans rfl
        have hcz8_1 : wc.cell? ⟨gb142, 1, none⟩ = some (.int .u64 0) := (blk_cell BK142.out 1).trans rfl
        have hcz8_2 : wc.cell? ⟨gb142, 2, none⟩ = some (.string (⟨#[]⟩ : ByteArray)) := (blk_cell BK142.out 2).trans rfl
        have hfz8_0 := blk_frozen BK142.out 0
        have hfz8_1 := blk_frozen BK142.out 1
        have hfz8_2 := blk_frozen BK142.out 2
        go_wp2
        refine bodyPost_ret (results_ctt rfl _ _ gb142 24 #[.int .i64 0, .int .u64 0, .string (⟨#[]⟩ : ByteArray)] (0, 0) _ rfl (by (with_reducible repeat (first | refine blk_drewN ?_ _ | refine blk_drew ?_ | refine blk_alloc ?_ _)); refine blk_put (cs := #[.int .i64 0, .int .u64 0, .string (⟨#[]⟩ : ByteArray)]) ?_ 2 _ rfl; (with_reducible repeat (first | refine blk_drewN ?_ _ | refine blk_drew ?_ | refine blk_alloc ?_ _)); refine blk_put (cs := #[.int .i64 0, .int .u64 0, .string (⟨#[]⟩ : ByteArray)]) ?_ 1 _ rfl; (with_reducible repeat (first | refine blk_drewN ?_ _ | refine blk_drew ?_ | refine blk_alloc ?_ _)); refine blk_put (cs := #[.int .i64 0, .int .u64 0, .string (⟨#[]⟩ : ByteArray)]) ?_ 0 _ rfl; (with_reducible repeat (first | refine blk_drewN ?_ _ | refine blk_drew ?_ | refine blk_alloc ?_ _)); exact BK142.out) Tryd.underlying24 rfl (by kernel_rfl)) rfl ?_
        exact ⟨by first | rfl | (simp [errW_none, errW_some] <;> rfl) | (simp [*, errW_none, errW_some] <;> rfl), by repeat (first | (with_reducible first | exact HB.out | apply below_alloc | apply pw_below_drewN | apply below_drew1 | refine below_set ?_ GE142.out) | exact HB.out)⟩
      · replace c7 := Bool.eq_false_iff.mpr c7
        subst c7
        have H1 : (if 0 ≤ a1 then (if a1 ≤ (wrap64 (a1 + 24)) then (if (wrap64 (a1 + 24)) ≤ (a0.size : Int) then (if 0 ≤ 2 then (if 2 ≤ ((a0.extract (a1 : Int).toNat ((wrap64 (a1 + 24)) : Int).toNat).size : Int) then (if ((a0.extract (a1 : Int).toNat ((wrap64 (a1 + 24)) : Int).toNat).extract 0 2).toList = ([83, 70] : List UInt8) then ((strataref01_ReadFixed32.f (a0.extract (a1 : Int).toNat ((wrap64 (a1 + 24)) : Int).toNat) 20).bind fun bt143 => (if 0 ≤ 20 then (if 20 ≤ ((a0.extract (a1 : Int).toNat ((wrap64 (a1 + 24)) : Int).toNat).size : Int) then ((strataref11_sum.f kj2 ((a0.extract (a1 : Int).toNat ((wrap64 (a1 + 24)) : Int).toNat).extract 0 20)).bind fun t146 => (if bt143.1 = t146 then ((strataref01_ReadFixed32.f (a0.extract (a1 : Int).toNat ((wrap64 (a1 + 24)) : Int).toNat) 4).bind fun bt147 => ((strataref01_ReadFixed64.f (a0.extract (a1 : Int).toNat ((wrap64 (a1 + 24)) : Int).toNat) 8).bind fun bt150 => (if 2 < ((a0.extract (a1 : Int).toNat ((wrap64 (a1 + 24)) : Int).toNat).size : Int) then ((strataref11_frameMay.f kj2 (wrap64 (bt (a0.extract (a1 : Int).toNat ((wrap64 (a1 + 24)) : Int).toNat) 2)) bt150.1 (wrap64 (bt147.1))).bind fun t153 => (if t153 = true then (if 3 < ((a0.extract (a1 : Int).toNat ((wrap64 (a1 + 24)) : Int).toNat).size : Int) then (strataref11_DecodeFrame.j1 kj2 a0 a1 (a0.extract (a1 : Int).toNat ((wrap64 (a1 + 24)) : Int).toNat) bt147.1 bt150.1 (wrap64 (bt (a0.extract (a1 : Int).toNat ((wrap64 (a1 + 24)) : Int).toNat) 2)) ((bt (a0.extract (a1 : Int).toNat ((wrap64 (a1 + 24)) : Int).toNat) 3) != 0)) else (none)) else (strataref11_DecodeFrame.j1 kj2 a0 a1 (a0.extract (a1 : Int).toNat ((wrap64 (a1 + 24)) : Int).toNat) bt147.1 bt150.1 (wrap64 (bt (a0.extract (a1 : Int).toNat ((wrap64 (a1 + 24)) : Int).toNat) 2)) true))) else (none)))) else (some (0, 0, (⟨#[]⟩ : ByteArray), a1, 3)))) else (none)) else (none))) else (some (0, 0, (⟨#[]⟩ : ByteArray), a1, 2))) else (none)) else (none)) else (none)) else (none)) else (none)) = some (r1, r2, r3, r4, r5) := by rw [if_neg (show ¬ (false = true) by decide)] at H; exact H
        clear H
        have H := H1
        clear H1
        by_cases c9 : 0 ≤ a1
        · rw [if_pos c9] at H
          have c9b0 := eq_true c9
          have c9b1 : decide (0 ≤ a1) = true := decide_eq_true c9
          clear c9
          by_cases c10 : a1 ≤ (wrap64 (a1 + 24))
          · rw [if_pos c10] at H
            have c10b0 := eq_true c10
            have c10b1 : decide (a1 ≤ (wrap64 (a1 + 24))) = true := decide_eq_true c10
            by_cases c11 : (wrap64 (a1 + 24)) ≤ (a0.size : Int)
            · rw [if_pos c11] at H
              have c11b0 := eq_true c11
              have c11b1 : decide ((wrap64 (a1 + 24)) ≤ (a0.size : Int)) = true := decide_eq_true c11
              by_cases c12 : 0 ≤ 2
              · rw [if_pos c12] at H
                have c12b0 := eq_true c12
                have c12b1 : decide (0 ≤ 2) = true := decide_eq_true c12
                clear c12
                by_cases c13 : 2 ≤ ((a0.extract (a1 : Int).toNat ((wrap64 (a1 + 24)) : Int).toNat).size : Int)
                · rw [if_pos c13] at H
                  have c13b0 := eq_true c13
                  have c13b1 : decide (2 ≤ ((a0.extract (a1 : Int).toNat ((wrap64 (a1 + 24)) : Int).toNat).size : Int)) = true := decide_eq_true c13
                  have c13b1n4 : decide (2 ≤ ((min ((wrap64 (a1 + 24)) : Int).toNat a0.size - (a1 : Int).toNat : Nat) : Int)) = true := by have h := c13b1; rw [ByteArray.size_extract] at h; exact h -- fixfr
                  have c13b1n5 : (2 ≤ ((min ((wrap64 (a1 + 24)) : Int).toNat a0.size - (a1 : Int).toNat : Nat) : Int)) = True := eq_true (of_decide_eq_true c13b1n4) -- fixfr
                  try have c13b1n6 : decide (2 ≤ ((((wrap64 (a1 + 24)) : Int).toNat - (a1 : Int).toNat : Nat) : Int)) = true := by have h := c13b1; rw [ByteArray.size_extract, Nat.min_eq_left (by have := of_decide_eq_true c11b1; omega)] at h; exact h -- fixfr
                  try have c13b1n7 : (2 ≤ ((((wrap64 (a1 + 24)) : Int).toNat - (a1 : Int).toNat : Nat) : Int)) = True := eq_true (of_decide_eq_true c13b1n6) -- fixfr
                  by_cases c14 : ((a0.extract (a1 : Int).toNat ((wrap64 (a1 + 24)) : Int).toNat).extract 0 2).toList = ([83, 70] : List UInt8)
                  · rw [if_pos c14] at H
                    have c14b0 : (((a0.extract (a1 : Int).toNat ((wrap64 (a1 + 24)) : Int).toNat).extract 0 2).toList == ([83, 70] : List UInt8)) = true := beq_iff_eq.mpr c14
                    have c14b1 : (((a0.extract (a1 : Int).toNat ((wrap64 (a1 + 24)) : Int).toNat).extract 0 2).toList != ([83, 70] : List UInt8)) = false := bne_eq_false_iff_eq.mpr c14
                    clear c14
                    replace H := Option.bind_eq_some_iff.mp H
                    obtain ⟨⟨t143, t144, t145⟩, A150, H⟩ := H
                    replace H : (if 0 ≤ 20 then (if 20 ≤ ((a0.extract (a1 : Int).toNat ((wrap64 (a1 + 24)) : Int).toNat).size : Int) then ((strataref11_sum.f kj2 ((a0.extract (a1 : Int).toNat ((wrap64 (a1 + 24)) : Int).toNat).extract 0 20)).bind fun t146 => (if t143 = t146 then ((strataref01_ReadFixed32.f (a0.extract (a1 : Int).toNat ((wrap64 (a1 + 24)) : Int).toNat) 4).bind fun bt147 => ((strataref01_ReadFixed64.f (a0.extract (a1 : Int).toNat ((wrap64 (a1 + 24)) : Int).toNat) 8).bind fun bt150 => (if 2 < ((a0.extract (a1 : Int).toNat ((wrap64 (a1 + 24)) : Int).toNat).size : Int) then ((strataref11_frameMay.f kj2 (wrap64 (bt (a0.extract (a1 : Int).toNat ((wrap64 (a1 + 24)) : Int).toNat) 2)) bt150.1 (wrap64 (bt147.1))).bind fun t153 => (if t153 = true then (if 3 < ((a0.extract (a1 : Int).toNat ((wrap64 (a1 + 24)) : Int).toNat).size : Int) then (strataref11_DecodeFrame.j1 kj2 a0 a1 (a0.extract (a1 : Int).toNat ((wrap64 (a1 + 24)) : Int).toNat) bt147.1 bt150.1 (wrap64 (bt (a0.extract (a1 : Int).toNat ((wrap64 (a1 + 24)) : Int).toNat) 2)) ((bt (a0.extract (a1 : Int).toNat ((wrap64 (a1 + 24)) : Int).toNat) 3) != 0)) else (none)) else (strataref11_DecodeFrame.j1 kj2 a0 a1 (a0.extract (a1 : Int).toNat ((wrap64 (a1 + 24)) : Int).toNat) bt147.1 bt150.1 (wrap64 (bt (a0.extract (a1 : Int).toNat ((wrap64 (a1 + 24)) : Int).toNat) 2)) true))) else (none)))) else (some (0, 0, (⟨#[]⟩ : ByteArray), a1, 3)))) else (none)) else (none)) = some (r1, r2, r3, r4, r5) := H
                    have A15 := Aside0.mk A150
                    clear A150
                    by_cases c16 : 0 ≤ 20
                    · rw [if_pos c16] at H
                      have c16b0 := eq_true c16
                      have c16b1 : decide (0 ≤ 20) = true := decide_eq_true c16
                      clear c16
                      by_cases c17 : 20 ≤ ((a0.extract (a1 : Int).toNat ((wrap64 (a1 + 24)) : Int).toNat).size : Int)
                      · rw [if_pos c17] at H
                        have c17b0 := eq_true c17
                        have c17b1 : decide (20 ≤ ((a0.extract (a1 : Int).toNat ((wrap64 (a1 + 24)) : Int).toNat).size : Int)) = true := decide_eq_true c17
                        have c17b1n4 : decide (20 ≤ ((min ((wrap64 (a1 + 24)) : Int).toNat a0.size - (a1 : Int).toNat : Nat) : Int)) = true := by have h := c17b1; rw [ByteArray.size_extract] at h; exact h -- fixfr
                        have c17b1n5 : (20 ≤ ((min ((wrap64 (a1 + 24)) : Int).toNat a0.size - (a1 : Int).toNat : Nat) : Int)) = True := eq_true (of_decide_eq_true c17b1n4) -- fixfr
                        try have c17b1n6 : decide (20 ≤ ((((wrap64 (a1 + 24)) : Int).toNat - (a1 : Int).toNat : Nat) : Int)) = true := by have h := c17b1; rw [ByteArray.size_extract, Nat.min_eq_left (by have := of_decide_eq_true c11b1; omega)] at h; exact h -- fixfr
                        try have c17b1n7 : (20 ≤ ((((wrap64 (a1 + 24)) : Int).toNat - (a1 : Int).toNat : Nat) : Int)) = True := eq_true (of_decide_eq_true c17b1n6) -- fixfr
                        replace H := Option.bind_eq_some_iff.mp H
                        obtain ⟨t146, A180, H⟩ := H
                        replace H : (if t143 = t146 then ((strataref01_ReadFixed32.f (a0.extract (a1 : Int).toNat ((wrap64 (a1 + 24)) : Int).toNat) 4).bind fun bt147 => ((strataref01_ReadFixed64.f (a0.extract (a1 : Int).toNat ((wrap64 (a1 + 24)) : Int).toNat) 8).bind fun bt150 => (if 2 < ((a0.extract (a1 : Int).toNat ((wrap64 (a1 + 24)) : Int).toNat).size : Int) then ((strataref11_frameMay.f kj2 (wrap64 (bt (a0.extract (a1 : Int).toNat ((wrap64 (a1 + 24)) : Int).toNat) 2)) bt150.1 (wrap64 (bt147.1))).bind fun t153 => (if t153 = true then (if 3 < ((a0.extract (a1 : Int).toNat ((wrap64 (a1 + 24)) : Int).toNat).size : Int) then (strataref11_DecodeFrame.j1 kj2 a0 a1 (a0.extract (a1 : Int).toNat ((wrap64 (a1 + 24)) : Int).toNat) bt147.1 bt150.1 (wrap64 (bt (a0.extract (a1 : Int).toNat ((wrap64 (a1 + 24)) : Int).toNat) 2)) ((bt (a0.extract (a1 : Int).toNat ((wrap64 (a1 + 24)) : Int).toNat) 3) != 0)) else (none)) else (strataref11_DecodeFrame.j1 kj2 a0 a1 (a0.extract (a1 : Int).toNat ((wrap64 (a1 + 24)) : Int).toNat) bt147.1 bt150.1 (wrap64 (bt (a0.extract (a1 : Int).toNat ((wrap64 (a1 + 24)) : Int).toNat) 2)) true))) else (none)))) else (some (0, 0, (⟨#[]⟩ : ByteArray), a1, 3))) = some (r1, r2, r3, r4, r5) := H
                        have A18 := Aside0.mk A180
                        clear A180
                        by_cases c19 : t143 = t146
                        · rw [if_pos c19] at H
                          have c19b0 : (t143 == t146) = true := beq_iff_eq.mpr c19
                          have c19b1 : (t143 != t146) = false := bne_eq_false_iff_eq.mpr c19
                          clear c19
                          replace H := Option.bind_eq_some_iff.mp H
                          obtain ⟨⟨t147, t148, t149⟩, A200, H⟩ := H
                          replace H : ((strataref01_ReadFixed64.f (a0.extract (a1 : Int).toNat ((wrap64 (a1 + 24)) : Int).toNat) 8).bind fun bt150 => (if 2 < ((a0.extract (a1 : Int).toNat ((wrap64 (a1 + 24)) : Int).toNat).size : Int) then ((strataref11_frameMay.f kj2 (wrap64 (bt (a0.extract (a1 : Int).toNat ((wrap64 (a1 + 24)) : Int).toNat) 2)) bt150.1 (wrap64 (t147))).bind fun t153 => (if t153 = true then (if 3 < ((a0.extract (a1 : Int).toNat ((wrap64 (a1 + 24)) : Int).toNat).size : Int) then (strataref11_DecodeFrame.j1 kj2 a0 a1 (a0.extract (a1 : Int).toNat ((wrap64 (a1 + 24)) : Int).toNat) t147 bt150.1 (wrap64 (bt (a0.extract (a1 : Int).toNat ((wrap64 (a1 + 24)) : Int).toNat) 2)) ((bt (a0.extract (a1 : Int).toNat ((wrap64 (a1 + 24)) : Int).toNat) 3) != 0)) else (none)) else (strataref11_DecodeFrame.j1 kj2 a0 a1 (a0.extract (a1 : Int).toNat ((wrap64 (a1 + 24)) : Int).toNat) t147 bt150.1 (wrap64 (bt (a0.extract (a1 : Int).toNat ((wrap64 (a1 + 24)) : Int).toNat) 2)) true))) else (none))) = some (r1, r2, r3, r4, r5) := H
                          have A20 := Aside0.mk A200
                          clear A200
                          replace H := Option.bind_eq_some_iff.mp H
                          obtain ⟨⟨t150, t151, t152⟩, A210, H⟩ := H
                          replace H : (if 2 < ((a0.extract (a1 : Int).toNat ((wrap64 (a1 + 24)) : Int).toNat).size : Int) then ((strataref11_frameMay.f kj2 (wrap64 (bt (a0.extract (a1 : Int).toNat ((wrap64 (a1 + 24)) : Int).toNat) 2)) t150 (wrap64 (t147))).bind fun t153 => (if t153 = true then (if 3 < ((a0.extract (a1 : Int).toNat ((wrap64 (a1 + 24)) : Int).toNat).size : Int) then (strataref11_DecodeFrame.j1 kj2 a0 a1 (a0.extract (a1 : Int).toNat ((wrap64 (a1 + 24)) : Int).toNat) t147 t150 (wrap64 (bt (a0.extract (a1 : Int).toNat ((wrap64 (a1 + 24)) : Int).toNat) 2)) ((bt (a0.extract (a1 : Int).toNat ((wrap64 (a1 + 24)) : Int).toNat) 3) != 0)) else (none)) else (strataref11_DecodeFrame.j1 kj2 a0 a1 (a0.extract (a1 : Int).toNat ((wrap64 (a1 + 24)) : Int).toNat) t147 t150 (wrap64 (bt (a0.extract (a1 : Int).toNat ((wrap64 (a1 + 24)) : Int).toNat) 2)) true))) else (none)) = some (r1, r2, r3, r4, r5) := H
                          have A21 := Aside0.mk A210
                          clear A210
                          by_cases c22 : 2 < ((a0.extract (a1 : Int).toNat ((wrap64 (a1 + 24)) : Int).toNat).size : Int)
                          · rw [if_pos c22] at H
                            have c22b0 : decide (2 < ((a0.extract (a1 : Int).toNat ((wrap64 (a1 + 24)) : Int).toNat).size : Int)) = true := decide_eq_true c22
                            have c22b0n4 : decide (2 < ((min ((wrap64 (a1 + 24)) : Int).toNat a0.size - (a1 : Int).toNat : Nat) : Int)) = true := by have h := c22b0; rw [ByteArray.size_extract] at h; exact h -- fixfr
                            have c22b0n5 : (2 < ((min ((wrap64 (a1 + 24)) : Int).toNat a0.size - (a1 : Int).toNat : Nat) : Int)) = True := eq_true (of_decide_eq_true c22b0n4) -- fixfr
                            try have c22b0n6 : decide (2 < ((((wrap64 (a1 + 24)) : Int).toNat - (a1 : Int).toNat : Nat) : Int)) = true := by have h := c22b0; rw [ByteArray.size_extract, Nat.min_eq_left (by have := of_decide_eq_true c11b1; omega)] at h; exact h -- fixfr
                            try have c22b0n7 : (2 < ((((wrap64 (a1 + 24)) : Int).toNat - (a1 : Int).toNat : Nat) : Int)) = True := eq_true (of_decide_eq_true c22b0n6) -- fixfr
                            have c22b1 : decide (2 < (a0.extract (a1 : Int).toNat ((wrap64 (a1 + 24)) : Int).toNat).size) = true := decide_eq_true (by omega)
                            clear c22
                            replace H := Option.bind_eq_some_iff.mp H
                            obtain ⟨t153, A240, H⟩ := H
                            replace H : (if t153 = true then (if 3 < ((a0.extract (a1 : Int).toNat ((wrap64 (a1 + 24)) : Int).toNat).size : Int) then (strataref11_DecodeFrame.j1 kj2 a0 a1 (a0.extract (a1 : Int).toNat ((wrap64 (a1 + 24)) : Int).toNat) t147 t150 (wrap64 (bt (a0.extract (a1 : Int).toNat ((wrap64 (a1 + 24)) : Int).toNat) 2)) ((bt (a0.extract (a1 : Int).toNat ((wrap64 (a1 + 24)) : Int).toNat) 3) != 0)) else (none)) else (strataref11_DecodeFrame.j1 kj2 a0 a1 (a0.extract (a1 : Int).toNat ((wrap64 (a1 + 24)) : Int).toNat) t147 t150 (wrap64 (bt (a0.extract (a1 : Int).toNat ((wrap64 (a1 + 24)) : Int).toNat) 2)) true)) = some (r1, r2, r3, r4, r5) := H
                            have A24 := Aside0.mk A240
                            clear A240
                            have HC25 := Aside0.mk H
                            clear H
                            go_upto_region 13 with (first | ((with_reducible refine gate_callee (f := 50) rfl ?_); refine goesL_ (some 53) rfl rfl Tryd.func50 (by kernel_rfl) rfl #[.string (a0.extract (a1 : Int).toNat ((wrap64 (a1 + 24)) : Int).toNat), .int .i64 20] rfl (by (try simp only [List.map_toArray, List.map_cons, List.map_nil]); first | done | rfl | (simp only [List.length_drop, List.length_take]; rfl)) ?_; (with_reducible refine (strataref01_ReadFixed32.calls (a0.extract (a1 : Int).toNat ((wrap64 (a1 + 24)) : Int).toNat) 20 t143 t144 t145 _ A15.out).mono ?_); rintro e w' ⟨rfl, ⟨nd, rfl⟩⟩; refine ⟨_, rfl, ?_⟩) | ((with_reducible refine gate_callee (f := 47) rfl ?_); refine goesL_ (some 60) rfl rfl Tryd.func47 (by kernel_rfl) rfl #[.string ((a0.extract (a1 : Int).toNat ((wrap64 (a1 + 24)) : Int).toNat).extract 0 20)] rfl (by (try simp only [List.map_toArray, List.map_cons, List.map_nil]); first | done | rfl | (simp only [List.length_drop, List.length_take]; rfl)) ?_; (with_reducible refine (strataref11_sum.calls kj2 ((a0.extract (a1 : Int).toNat ((wrap64 (a1 + 24)) : Int).toNat).extract 0 20) t146 _ A18.out).mono ?_); rintro e w26 ⟨rfl, hb⟩; refine ⟨_, rfl, ?_⟩; have n0_ := Aside0.mk (blk_below (g := gb142) (o := .cells #[.int .i64 0, .int .u64 0, .string (⟨#[]⟩ : ByteArray)] 24 (0, 0)) (by (with_reducible repeat (first | refine blk_drewN ?_ _ | refine blk_drew ?_ | refine blk_alloc ?_ _)); exact BK142.out) hb); have n1_ := Aside0.mk (below_step (by repeat (first | (with_reducible first | exact HB.out | apply below_alloc | apply pw_below_drewN | apply below_drew1 | refine below_set ?_ GE142.out) | exact HB.out)) hb); clear BK142; clear HB; have BK142 := n0_; have HB := n1_; clear n0_ n1_; (try clear hb); (try clear hb2); (try clear hk); (try clear hi)) | ((with_reducible refine gate_callee (f := 50) rfl ?_); refine goesL_ (some 66) rfl rfl Tryd.func50 (by kernel_rfl) rfl #[.string (a0.extract (a1 : Int).toNat ((wrap64 (a1 + 24)) : Int).toNat), .int .i64 4] rfl (by (try simp only [List.map_toArray, List.map_cons, List.map_nil]); first | done | rfl | (simp only [List.length_drop, List.length_take]; rfl)) ?_; (with_reducible refine (strataref01_ReadFixed32.calls (a0.extract (a1 : Int).toNat ((wrap64 (a1 + 24)) : Int).toNat) 4 t147 t148 t149 _ A20.out).mono ?_); rintro e w' ⟨rfl, ⟨nd, rfl⟩⟩; refine ⟨_, rfl, ?_⟩) | ((with_reducible refine gate_callee (f := 51) rfl ?_); refine goesL_ (some 72) rfl rfl Tryd.func51 (by kernel_rfl) rfl #[.string (a0.extract (a1 : Int).toNat ((wrap64 (a1 + 24)) : Int).toNat), .int .i64 8] rfl (by (try simp only [List.map_toArray, List.map_cons, List.map_nil]); first | done | rfl | (simp only [List.length_drop, List.length_take]; rfl)) ?_; (with_reducible refine (strataref01_ReadFixed64.calls (a0.extract (a1 : Int).toNat ((wrap64 (a1 + 24)) : Int).toNat) 8 t150 t151 t152 _ A21.out).mono ?_); rintro e w' ⟨rfl, ⟨nd, rfl⟩⟩; refine ⟨_, rfl, ?_⟩; have p23 : 0 ≤ (2 : Int) := (by omega); have q23 : 2 < (a0.extract (a1 : Int).toNat ((wrap64 (a1 + 24)) : Int).toNat).size := (by have : (2 : Int) < ((a0.extract (a1 : Int).toNat ((wrap64 (a1 + 24)) : Int).toNat).size : Int) := of_decide_eq_true (by first | (with_reducible assumption) | assumption); omega); have hx23 : ∀ h : 2 < (a0.extract (a1 : Int).toNat ((wrap64 (a1 + 24)) : Int).toNat).size, (((a0.extract (a1 : Int).toNat ((wrap64 (a1 + 24)) : Int).toNat)[2]'h).toNat : Int) = bt (a0.extract (a1 : Int).toNat ((wrap64 (a1 + 24)) : Int).toNat) 2 := bt_at (a0.extract (a1 : Int).toNat ((wrap64 (a1 + 24)) : Int).toNat) 2; clear p23; have qi23 : (2 < ((a0.extract (a1 : Int).toNat ((wrap64 (a1 + 24)) : Int).toNat).size : Int)) = True := eq_true (of_decide_eq_true (by first | (with_reducible assumption) | assumption)); replace q23 := eq_true q23) | ((with_reducible refine gate_callee (f := 44) rfl ?_); refine goesL_ (some 83) rfl rfl Tryd.func44 (by kernel_rfl) rfl #[.int .i64 (wrap64 (bt (a0.extract (a1 : Int).toNat ((wrap64 (a1 + 24)) : Int).toNat) 2)), .int .u64 t150, .int .i64 (wrap64 (t147))] rfl (by (try simp only [List.map_toArray, List.map_cons, List.map_nil]); first | done | rfl | (simp only [List.length_drop, List.length_take]; rfl)) ?_; (with_reducible refine (strataref11_frameMay.calls kj2 (wrap64 (bt (a0.extract (a1 : Int).toNat ((wrap64 (a1 + 24)) : Int).toNat) 2)) t150 (wrap64 (t147)) t153 _ A24.out).mono ?_); rintro e w' ⟨rfl, ⟨nd, rfl⟩⟩; refine ⟨_, rfl, ?_⟩))
                            (try simp only [Act.put, List.setIfInBounds_toArray, List.set_cons_zero, List.set_cons_succ])
                            go_cut [90] (fun v90 wc => ∃ (kq : Nat) (x90_24 : Bool), v90 = .bool x90_24 ∧ Aside0 (strataref11_DecodeFrame.j1 kq a0 a1 (a0.extract (a1 : Int).toNat ((wrap64 (a1 + 24)) : Int).toNat) t147 t150 (wrap64 (bt (a0.extract (a1 : Int).toNat ((wrap64 (a1 + 24)) : Int).toNat) 2)) x90_24 = some (r1, r2, r3, r4, r5)) ∧ Aside0 (kq ≤ kj2) ∧ Aside0 (wc.heap[gb142]? = some (.cells #[.int .i64 0, .int .u64 0, .string (⟨#[]⟩ : ByteArray)] 24 (0, 0))) ∧ Aside0 (Below w.heap.size w wc))
                            case first =>
                              have H := HC25.out
                              clear HC25
                              by_cases c27 : t153 = true
                              · subst c27
                                have H1 : (if 3 < ((a0.extract (a1 : Int).toNat ((wrap64 (a1 + 24)) : Int).toNat).size : Int) then (strataref11_DecodeFrame.j1 kj2 a0 a1 (a0.extract (a1 : Int).toNat ((wrap64 (a1 + 24)) : Int).toNat) t147 t150 (wrap64 (bt (a0.extract (a1 : Int).toNat ((wrap64 (a1 + 24)) : Int).toNat) 2)) ((bt (a0.extract (a1 : Int).toNat ((wrap64 (a1 + 24)) : Int).toNat) 3) != 0)) else (none)) = some (r1, r2, r3, r4, r5) := by rw [if_pos rfl] at H; exact H
                                clear H
                                have H := H1
                                clear H1
                                by_cases c28 : 3 < ((a0.extract (a1 : Int).toNat ((wrap64 (a1 + 24)) : Int).toNat).size : Int)
                                · rw [if_pos c28] at H
                                  have c28b0 : decide (3 < ((a0.extract (a1 : Int).toNat ((wrap64 (a1 + 24)) : Int).toNat).size : Int)) = true := decide_eq_true c28
                                  have c28b0n4 : decide (3 < ((min ((wrap64 (a1 + 24)) : Int).toNat a0.size - (a1 : Int).toNat : Nat) : Int)) = true := by have h := c28b0; rw [ByteArray.size_extract] at h; exact h -- fixfr
                                  have c28b0n5 : (3 < ((min ((wrap64 (a1 + 24)) : Int).toNat a0.size - (a1 : Int).toNat : Nat) : Int)) = True := eq_true (of_decide_eq_true c28b0n4) -- fixfr
                                  try have c28b0n6 : decide (3 < ((((wrap64 (a1 + 24)) : Int).toNat - (a1 : Int).toNat : Nat) : Int)) = true := by have h := c28b0; rw [ByteArray.size_extract, Nat.min_eq_left (by have := of_decide_eq_true c11b1; omega)] at h; exact h -- fixfr
                                  try have c28b0n7 : (3 < ((((wrap64 (a1 + 24)) : Int).toNat - (a1 : Int).toNat : Nat) : Int)) = True := eq_true (of_decide_eq_true c28b0n6) -- fixfr
                                  have c28b1 : decide (3 < (a0.extract (a1 : Int).toNat ((wrap64 (a1 + 24)) : Int).toNat).size) = true := decide_eq_true (by omega)
                                  clear c28
                                  (first | rw [c28b0] | (simp only [i64_w, i32_w]; rw [c28b0]) | skip)
                                  have H' := Aside0.mk H
                                  clear H
                                  have p29 : 0 ≤ (3 : Int) := (by omega)
                                  have q29 : 3 < (a0.extract (a1 : Int).toNat ((wrap64 (a1 + 24)) : Int).toNat).size := (by have : (3 : Int) < ((a0.extract (a1 : Int).toNat ((wrap64 (a1 + 24)) : Int).toNat).size : Int) := of_decide_eq_true (by first | (with_reducible assumption) | assumption); omega)
                                  have hx29 : ∀ h : 3 < (a0.extract (a1 : Int).toNat ((wrap64 (a1 + 24)) : Int).toNat).size, (((a0.extract (a1 : Int).toNat ((wrap64 (a1 + 24)) : Int).toNat)[3]'h).toNat : Int) = bt (a0.extract (a1 : Int).toNat ((wrap64 (a1 + 24)) : Int).toNat) 3 := bt_at (a0.extract (a1 : Int).toNat ((wrap64 (a1 + 24)) : Int).toNat) 3
                                  clear p29
                                  have qi29 : (3 < ((a0.extract (a1 : Int).toNat ((wrap64 (a1 + 24)) : Int).toNat).size : Int)) = True := eq_true (of_decide_eq_true (by first | (with_reducible assumption) | assumption))
                                  have qi29n4 : decide (3 < ((min ((wrap64 (a1 + 24)) : Int).toNat a0.size - (a1 : Int).toNat : Nat) : Int)) = true := by have h := decide_eq_true (of_eq_true qi29); rw [ByteArray.size_extract] at h; exact h -- fixfr
                                  have qi29n5 : (3 < ((min ((wrap64 (a1 + 24)) : Int).toNat a0.size - (a1 : Int).toNat : Nat) : Int)) = True := eq_true (of_decide_eq_true qi29n4) -- fixfr
                                  try have qi29n6 : decide (3 < ((((wrap64 (a1 + 24)) : Int).toNat - (a1 : Int).toNat : Nat) : Int)) = true := by have h := decide_eq_true (of_eq_true qi29); rw [ByteArray.size_extract, Nat.min_eq_left (by have := of_decide_eq_true c11b1; omega)] at h; exact h -- fixfr
                                  try have qi29n7 : (3 < ((((wrap64 (a1 + 24)) : Int).toNat - (a1 : Int).toNat : Nat) : Int)) = True := eq_true (of_decide_eq_true qi29n6) -- fixfr
                                  replace q29 := eq_true q29
                                  go_wp2
                                  go_meet
                                  case rel => exact ⟨_, (((bt (a0.extract (a1 : Int).toNat ((wrap64 (a1 + 24)) : Int).toNat) 3) != 0)), (by first | rfl | (simp; done) | (simp [*]; done)), H', ⟨by have := HJ2.out; first | omega | exact Nat.le_refl _⟩, ⟨by (with_reducible repeat (first | refine blk_drewN ?_ _ | refine blk_drew ?_ | refine blk_alloc ?_ _)); exact BK142.out⟩, ⟨by repeat (first | (with_reducible first | exact HB.out | apply below_alloc | apply pw_below_drewN | apply below_drew1 | refine below_set ?_ GE142.out) | exact HB.out)⟩⟩
                                · rw [if_neg c28] at H
                                  exact absurd H (by simp)
                              · replace c27 := Bool.eq_false_iff.mpr c27
                                subst c27
                                have H1 : (strataref11_DecodeFrame.j1 kj2 a0 a1 (a0.extract (a1 : Int).toNat ((wrap64 (a1 + 24)) : Int).toNat) t147 t150 (wrap64 (bt (a0.extract (a1 : Int).toNat ((wrap64 (a1 + 24)) : Int).toNat) 2)) true) = some (r1, r2, r3, r4, r5) := by rw [if_neg (show ¬ (false = true) by decide)] at H; exact H
                                clear H
                                have H := H1
                                clear H1
                                have H' := Aside0.mk H
                                clear H
                                go_wp2
                                go_meet
                                case rel => exact ⟨_, (true), (by first | rfl | (simp; done) | (simp [*]; done)), H', ⟨by have := HJ2.out; first | omega | exact Nat.le_refl _⟩, ⟨by (with_reducible repeat (first | refine blk_drewN ?_ _ | refine blk_drew ?_ | refine blk_alloc ?_ _)); exact BK142.out⟩, ⟨by repeat (first | (with_reducible first | exact HB.out | apply below_alloc | apply pw_below_drewN | apply below_drew1 | refine below_set ?_ GE142.out) | exact HB.out)⟩⟩
                            case rest =>
                              clear HC25
                              try clear c1
                              try clear c2
                              try clear p2
                              try clear q2
                              try clear hx2
                              try clear qi2
                              try clear c4
                              try clear c5
                              try clear c5b0
                              try clear c6
                              try clear c6b0
                              try clear p6
                              try clear c7
                              try clear c9
                              try clear c9b0
                              try clear c9b1
                              try clear c10
                              try clear c10b0
                              try clear c10b1
                              try clear c11
                              try clear c11b0
                              try clear c11b1
                              try clear c12
                              try clear c12b0
                              try clear c12b1
                              try clear c13
                              try clear c13b0
                              try clear c13b1
                              try clear c14
                              try clear c14b0
                              try clear c14b1
                              try clear c16
                              try clear c16b0
                              try clear c16b1
                              try clear c17
                              try clear c17b0
                              try clear c17b1
                              try clear c19
                              try clear c19b0
                              try clear c19b1
                              try clear c22
                              try clear c22b0
                              try clear c22b1
                              try clear p23
                              try clear q23
                              try clear hx23
                              try clear qi23
                              try clear c27
                              try clear c28
                              try clear c28b0
                              try clear c28b1
                              try clear p29
                              try clear q29
                              try clear hx29
                              try clear qi29
                              try clear hcz8_0
                              try clear hcz8_1
                              try clear hcz8_2
                              try clear hfz8_0
                              try clear hfz8_1
                              try clear hfz8_2
                              try clear p2
                              try clear p23
                              try clear p29
                              try clear p6
                              try clear q23
                              try clear q29
                              obtain ⟨kq, x90_24, rfl, HA, HJ24, BK142, HB⟩ := hcut
                              cases kq with
                              | zero => exact absurd HA.out (by simp [strataref11_DecodeFrame.j1])
                              | succ kj24 =>
                                have H := HA.out
                                clear HA
                                simp only [strataref11_DecodeFrame.j1] at H
                                by_cases c30 : x90_24 = true
                                · subst c30
                                  have H1 : (some (0, 0, (⟨#[]⟩ : ByteArray), a1, 4)) = some (r1, r2, r3, r4, r5) := by rw [if_pos rfl] at H; exact H
                                  clear H
                                  have H := H1
                                  clear H1
                                  simp only [Option.some.injEq, Prod.mk.injEq] at H
                                  obtain ⟨rfl, rfl, rfl, rfl, rfl⟩ := H
                                  have hcz31_0 : wc.cell? ⟨gb142, 0, none⟩ = some (.int .i64 0) := (blk_cell BK142.out 0).trans rfl
                                  have hcz31_1 : wc.cell? ⟨gb142, 1, none⟩ = some (.int .u64 0) := (blk_cell BK142.out 1).trans rfl
                                  have hcz31_2 : wc.cell? ⟨gb142, 2, none⟩ = some (.string (⟨#[]⟩ : ByteArray)) := (blk_cell BK142.out 2).trans rfl
                                  have hfz31_0 := blk_frozen BK142.out 0
                                  have hfz31_1 := blk_frozen BK142.out 1
                                  have hfz31_2 := blk_frozen BK142.out 2
                                  go_wp2
                                  refine bodyPost_ret (results_ctt rfl _ _ gb142 24 #[.int .i64 0, .int .u64 0, .string (⟨#[]⟩ : ByteArray)] (0, 0) _ rfl (by (with_reducible repeat (first | refine blk_drewN ?_ _ | refine blk_drew ?_ | refine blk_alloc ?_ _)); refine blk_put (cs := #[.int .i64 0, .int .u64 0, .string (⟨#[]⟩ : ByteArray)]) ?_ 2 _ rfl; (with_reducible repeat (first | refine blk_drewN ?_ _ | refine blk_drew ?_ | refine blk_alloc ?_ _)); refine blk_put (cs := #[.int .i64 0, .int .u64 0, .string (⟨#[]⟩ : ByteArray)]) ?_ 1 _ rfl; (with_reducible repeat (first | refine blk_drewN ?_ _ | refine blk_drew ?_ | refine blk_alloc ?_ _)); refine blk_put (cs := #[.int .i64 0, .int .u64 0, .string (⟨#[]⟩ : ByteArray)]) ?_ 0 _ rfl; (with_reducible repeat (first | refine blk_drewN ?_ _ | refine blk_drew ?_ | refine blk_alloc ?_ _)); exact BK142.out) Tryd.underlying24 rfl (by kernel_rfl)) rfl ?_
                                  exact ⟨by first | rfl | (simp [errW_none, errW_some] <;> rfl) | (simp [*, errW_none, errW_some] <;> rfl), by repeat (first | (with_reducible first | exact HB.out | apply below_alloc | apply pw_below_drewN | apply below_drew1 | refine below_set ?_ GE142.out) | exact HB.out)⟩
                                · replace c30 := Bool.eq_false_iff.mpr c30
                                  subst c30
                                  have H1 : (if (wrap64 ((wrap64 (a1 + 24)) + (wrap64 (t147)))) > (a0.size : Int) then (some (0, 0, (⟨#[]⟩ : ByteArray), a1, 1)) else (if 0 ≤ (wrap64 (a1 + 24)) then (if (wrap64 (a1 + 24)) ≤ (wrap64 ((wrap64 (a1 + 24)) + (wrap64 (t147)))) then (if (wrap64 ((wrap64 (a1 + 24)) + (wrap64 (t147)))) ≤ (a0.size : Int) then ((strataref01_ReadFixed32.f (a0.extract (a1 : Int).toNat ((wrap64 (a1 + 24)) : Int).toNat) 16).bind fun bt154 => ((strataref11_sum.f kj24 (a0.extract ((wrap64 (a1 + 24)) : Int).toNat ((wrap64 ((wrap64 (a1 + 24)) + (wrap64 (t147)))) : Int).toNat)).bind fun t157 => (if bt154.1 = t157 then (some ((wrap64 (bt (a0.extract (a1 : Int).toNat ((wrap64 (a1 + 24)) : Int).toNat) 2)), t150, a0.extract ((wrap64 (a1 + 24)) : Int).toNat ((wrap64 ((wrap64 (a1 + 24)) + (wrap64 (t147)))) : Int).toNat, wrap64 ((wrap64 (a1 + 24)) + (wrap64 (t147))), 0)) else (some (0, 0, (⟨#[]⟩ : ByteArray), a1, 5))))) else (none)) else (none)) else (none))) = some (r1, r2, r3, r4, r5) := by rw [if_neg (show ¬ (false = true) by decide)] at H; exact H
                                  clear H
                                  have H := H1
                                  clear H1
                                  by_cases c32 : (wrap64 ((wrap64 (a1 + 24)) + (wrap64 (t147)))) > (a0.size : Int)
                                  · rw [if_pos c32] at H
                                    have c32b0 : decide ((a0.size : Int) < (wrap64 ((wrap64 (a1 + 24)) + (wrap64 (t147))))) = true := decide_eq_true c32
                                    clear c32
                                    simp only [Option.some.injEq, Prod.mk.injEq] at H
                                    obtain ⟨rfl, rfl, rfl, rfl, rfl⟩ := H
                                    have hcz33_0 : wc.cell? ⟨gb142, 0, none⟩ = some (.int .i64 0) := (blk_cell BK142.out 0).trans rfl
                                    have hcz33_1 : wc.cell? ⟨gb142, 1, none⟩ = some (.int .u64 0) := (blk_cell BK142.out 1).trans rfl
                                    have hcz33_2 : wc.cell? ⟨gb142, 2, none⟩ = some (.string (⟨#[]⟩ : ByteArray)) := (blk_cell BK142.out 2).trans rfl
                                    have hfz33_0 := blk_frozen BK142.out 0
                                    have hfz33_1 := blk_frozen BK142.out 1
                                    have hfz33_2 := blk_frozen BK142.out 2
                                    go_wp2
                                    refine bodyPost_ret (results_ctt rfl _ _ gb142 24 #[.int .i64 0, .int .u64 0, .string (⟨#[]⟩ : ByteArray)] (0, 0) _ rfl (by (with_reducible repeat (first | refine blk_drewN ?_ _ | refine blk_drew ?_ | refine blk_alloc ?_ _)); refine blk_put (cs := #[.int .i64 0, .int .u64 0, .string (⟨#[]⟩ : ByteArray)]) ?_ 2 _ rfl; (with_reducible repeat (first | refine blk_drewN ?_ _ | refine blk_drew ?_ | refine blk_alloc ?_ _)); refine blk_put (cs := #[.int .i64 0, .int .u64 0, .string (⟨#[]⟩ : ByteArray)]) ?_ 1 _ rfl; (with_reducible repeat (first | refine blk_drewN ?_ _ | refine blk_drew ?_ | refine blk_alloc ?_ _)); refine blk_put (cs := #[.int .i64 0, .int .u64 0, .string (⟨#[]⟩ : ByteArray)]) ?_ 0 _ rfl; (with_reducible repeat (first | refine blk_drewN ?_ _ | refine blk_drew ?_ | refine blk_alloc ?_ _)); exact BK142.out) Tryd.underlying24 rfl (by kernel_rfl)) rfl ?_
                                    exact ⟨by first | rfl | (simp [errW_none, errW_some] <;> rfl) | (simp [*, errW_none, errW_some] <;> rfl), by repeat (first | (with_reducible first | exact HB.out | apply below_alloc | apply pw_below_drewN | apply below_drew1 | refine below_set ?_ GE142.out) | exact HB.out)⟩
                                  · rw [if_neg c32] at H
                                    have c32b0 : decide ((a0.size : Int) < (wrap64 ((wrap64 (a1 + 24)) + (wrap64 (t147))))) = false := decide_eq_false c32
                                    clear c32
                                    obtain ⟨ji34, hji34⟩ : ∃ j_ : Int, (wrap64 (a1 + 24)) = j_ := ⟨_, rfl⟩
                                    replace H : (if 0 ≤ (ji34) then (if (ji34) ≤ (wrap64 ((ji34) + (wrap64 (t147)))) then (if (wrap64 ((ji34) + (wrap64 (t147)))) ≤ (a0.size : Int) then ((strataref01_ReadFixed32.f (a0.extract (a1 : Int).toNat ((ji34) : Int).toNat) 16).bind fun bt154 => ((strataref11_sum.f kj24 (a0.extract ((ji34) : Int).toNat ((wrap64 ((ji34) + (wrap64 (t147)))) : Int).toNat)).bind fun t157 => (if bt154.1 = t157 then (some ((wrap64 (bt (a0.extract (a1 : Int).toNat ((ji34) : Int).toNat) 2)), t150, a0.extract ((ji34) : Int).toNat ((wrap64 ((ji34) + (wrap64 (t147)))) : Int).toNat, wrap64 ((ji34) + (wrap64 (t147))), 0)) else (some (0, 0, (⟨#[]⟩ : ByteArray), a1, 5))))) else (none)) else (none)) else (none)) = some (r1, r2, r3, r4, r5) := by first | (rw [hji34] at H; exact H) | (simp only [hji34] at H ⊢; exact H)
                                    (try rw [hji34] at c10b0)
                                    (try rw [hji34] at c10b1)
                                    (try rw [hji34] at c10)
                                    (try rw [hji34] at c11b0)
                                    (try rw [hji34] at c11b1)
                                    (try rw [hji34] at c11)
                                    (try rw [hji34] at c13b0)
                                    (try rw [hji34] at c13b1)
                                    (try rw [hji34] at c13)
                                    (try rw [hji34] at c14b0)
                                    (try rw [hji34] at c14b1)
                                    (try rw [hji34] at c17b0)
                                    (try rw [hji34] at c17b1)
                                    (try rw [hji34] at c17)
                                    (try rw [hji34] at c22b0)
                                    (try rw [hji34] at c22b1)
                                    (try rw [hji34] at c32b0)
                                    have hji34w : (IntKind.i64.wrap (a1 + 24)) = ji34 := (i64_w _).trans hji34
                                    by_cases c35 : 0 ≤ (ji34)
                                    · rw [if_pos c35] at H
                                      have c35b0 := eq_true c35
                                      have c35b1 : decide (0 ≤ (ji34)) = true := decide_eq_true c35
                                      clear c35
                                      by_cases c36 : (ji34) ≤ (wrap64 ((ji34) + (wrap64 (t147))))
                                      · rw [if_pos c36] at H
                                        have c36b0 := eq_true c36
                                        have c36b1 : decide ((ji34) ≤ (wrap64 ((ji34) + (wrap64 (t147))))) = true := decide_eq_true c36
                                        by_cases c37 : (wrap64 ((ji34) + (wrap64 (t147)))) ≤ (a0.size : Int)
                                        · rw [if_pos c37] at H
                                          have c37b0 := eq_true c37
                                          have c37b1 : decide ((wrap64 ((ji34) + (wrap64 (t147)))) ≤ (a0.size : Int)) = true := decide_eq_true c37
                                          replace H := Option.bind_eq_some_iff.mp H
                                          obtain ⟨⟨t154, t155, t156⟩, A380, H⟩ := H
                                          replace H : ((strataref11_sum.f kj24 (a0.extract ((ji34) : Int).toNat ((wrap64 ((ji34) + (wrap64 (t147)))) : Int).toNat)).bind fun t157 => (if t154 = t157 then (some ((wrap64 (bt (a0.extract (a1 : Int).toNat ((ji34) : Int).toNat) 2)), t150, a0.extract ((ji34) : Int).toNat ((wrap64 ((ji34) + (wrap64 (t147)))) : Int).toNat, wrap64 ((ji34) + (wrap64 (t147))), 0)) else (some (0, 0, (⟨#[]⟩ : ByteArray), a1, 5)))) = some (r1, r2, r3, r4, r5) := H
                                          have A38 := Aside0.mk A380
                                          clear A380
                                          replace H := Option.bind_eq_some_iff.mp H
                                          obtain ⟨t157, A390, H⟩ := H
                                          replace H : (if t154 = t157 then (some ((wrap64 (bt (a0.extract (a1 : Int).toNat ((ji34) : Int).toNat) 2)), t150, a0.extract ((ji34) : Int).toNat ((wrap64 ((ji34) + (wrap64 (t147)))) : Int).toNat, wrap64 ((ji34) + (wrap64 (t147))), 0)) else (some (0, 0, (⟨#[]⟩ : ByteArray), a1, 5))) = some (r1, r2, r3, r4, r5) := H
                                          have A39 := Aside0.mk A390
                                          clear A390
                                          by_cases c40 : t154 = t157
                                          · rw [if_pos c40] at H
                                            have c40b0 : (t154 == t157) = true := beq_iff_eq.mpr c40
                                            have c40b1 : (t154 != t157) = false := bne_eq_false_iff_eq.mpr c40
                                            clear c40
                                            simp only [Option.some.injEq, Prod.mk.injEq] at H
                                            obtain ⟨rfl, rfl, rfl, rfl, rfl⟩ := H
                                            go_wp2_with (first | ((with_reducible refine gate_callee (f := 50) rfl ?_); refine goesL_ (some 111) rfl rfl Tryd.func50 (by kernel_rfl) rfl #[.string (a0.extract (a1 : Int).toNat ((ji34) : Int).toNat), .int .i64 16] rfl (by (try simp only [List.map_toArray, List.map_cons, List.map_nil]); first | done | (simp only [hji34]; rfl) | rfl | (simp only [List.length_drop, List.length_take]; rfl)) ?_; (with_reducible refine (strataref01_ReadFixed32.calls (a0.extract (a1 : Int).toNat ((ji34) : Int).toNat) 16 t154 t155 t156 _ A38.out).mono ?_); rintro e w' ⟨rfl, ⟨nd, rfl⟩⟩; refine ⟨_, rfl, ?_⟩; (try (rw [drewN_self wc]; generalize hq_ : World.drewN wc _ = wc; have n0_ : Aside0 (wc.heap[gb142]? = some (.cells #[.int .i64 0, .int .u64 0, .string (⟨#[]⟩ : ByteArray)] 24 (0, 0))) := ⟨by rw [← hq_]; exact (by (with_reducible repeat (first | refine blk_drewN ?_ _ | refine blk_drew ?_ | refine blk_alloc ?_ _)); exact BK142.out)⟩; have n1_ : Aside0 (Below w.heap.size w wc) := ⟨by rw [← hq_]; exact (by repeat (first | (with_reducible first | exact HB.out | apply below_alloc | apply pw_below_drewN | apply below_drew1 | refine below_set ?_ GE142.out) | exact HB.out))⟩; clear BK142 HB hq_; have BK142 := n0_; have HB := n1_; clear n0_ n1_))) | ((with_reducible refine gate_callee (f := 47) rfl ?_); refine goesL_ (some 117) rfl rfl Tryd.func47 (by kernel_rfl) rfl #[.string (a0.extract ((ji34) : Int).toNat ((wrap64 ((ji34) + (wrap64 (t147)))) : Int).toNat)] rfl (by (try simp only [List.map_toArray, List.map_cons, List.map_nil]); first | done | (simp only [hji34]; rfl) | rfl | (simp only [List.length_drop, List.length_take]; rfl)) ?_; (with_reducible refine (strataref11_sum.calls kj24 (a0.extract ((ji34) : Int).toNat ((wrap64 ((ji34) + (wrap64 (t147)))) : Int).toNat) t157 _ A39.out).mono ?_); rintro e w41 ⟨rfl, hb⟩; refine ⟨_, rfl, ?_⟩; have n0_ := Aside0.mk (blk_below (g := gb142) (o := .cells #[.int .i64 0, .int .u64 0, .string (⟨#[]⟩ : ByteArray)] 24 (0, 0)) (by (with_reducible repeat (first | refine blk_drewN ?_ _ | refine blk_drew ?_ | refine blk_alloc ?_ _)); exact BK142.out) hb); have n1_ := Aside0.mk (below_step (by repeat (first | (with_reducible first | exact HB.out | apply below_alloc | apply pw_below_drewN | apply below_drew1 | refine below_set ?_ GE142.out) | exact HB.out)) hb); clear BK142; clear HB; have BK142 := n0_; have HB := n1_; clear n0_ n1_; (try clear hb); (try clear hb2); (try clear hk); (try clear hi); have hcz42_0 : w41.cell? ⟨gb142, 0, none⟩ = some (.int .i64 0) := (blk_cell BK142.out 0).trans rfl; have hcz42_1 : w41.cell? ⟨gb142, 1, none⟩ = some (.int .u64 0) := (blk_cell BK142.out 1).trans rfl; have hcz42_2 : w41.cell? ⟨gb142, 2, none⟩ = some (.string (⟨#[]⟩ : ByteArray)) := (blk_cell BK142.out 2).trans rfl; have hfz42_0 := blk_frozen BK142.out 0; have hfz42_1 := blk_frozen BK142.out 1; have hfz42_2 := blk_frozen BK142.out 2))
                                            refine bodyPost_ret (results_ctt rfl _ _ gb142 24 #[.int .i64 (wrap64 (bt (a0.extract (a1 : Int).toNat ((ji34) : Int).toNat) 2)), .int .u64 t150, .string (a0.extract ((ji34) : Int).toNat ((wrap64 ((ji34) + (wrap64 (t147)))) : Int).toNat)] (0, 0) _ rfl (by (with_reducible repeat (first | refine blk_drewN ?_ _ | refine blk_drew ?_ | refine blk_alloc ?_ _)); refine blk_put (cs := #[.int .i64 (wrap64 (bt (a0.extract (a1 : Int).toNat ((ji34) : Int).toNat) 2)), .int .u64 t150, .string (⟨#[]⟩ : ByteArray)]) ?_ 2 _ rfl; (with_reducible repeat (first | refine blk_drewN ?_ _ | refine blk_drew ?_ | refine blk_alloc ?_ _)); refine blk_put (cs := #[.int .i64 (wrap64 (bt (a0.extract (a1 : Int).toNat ((ji34) : Int).toNat) 2)), .int .u64 0, .string (⟨#[]⟩ : ByteArray)]) ?_ 1 _ rfl; (with_reducible repeat (first | refine blk_drewN ?_ _ | refine blk_drew ?_ | refine blk_alloc ?_ _)); refine blk_put (cs := #[.int .i64 0, .int .u64 0, .string (⟨#[]⟩ : ByteArray)]) ?_ 0 _ rfl; (with_reducible repeat (first | refine blk_drewN ?_ _ | refine blk_drew ?_ | refine blk_alloc ?_ _)); exact BK142.out) Tryd.underlying24 rfl (by kernel_rfl)) rfl ?_
                                            exact ⟨by first | rfl | (simp [errW_none, errW_some] <;> rfl) | (simp only [← hji34]; first | rfl | (simp [errW_none, errW_some] <;> rfl)) | (simp [*, errW_none, errW_some] <;> rfl), by repeat (first | (with_reducible first | exact HB.out | apply below_alloc | apply pw_below_drewN | apply below_drew1 | refine below_set ?_ GE142.out) | exact HB.out)⟩
                                          · rw [if_neg c40] at H
                                            have c40b0 : (t154 == t157) = false := beq_eq_false_iff_ne.mpr c40
                                            have c40b1 : (t154 != t157) = true := bne_iff_ne.mpr c40
                                            simp only [Option.some.injEq, Prod.mk.injEq] at H
                                            obtain ⟨rfl, rfl, rfl, rfl, rfl⟩ := H
                                            go_wp2_with (first | ((with_reducible refine gate_callee (f := 50) rfl ?_); refine goesL_ (some 111) rfl rfl Tryd.func50 (by kernel_rfl) rfl #[.string (a0.extract (a1 : Int).toNat ((ji34) : Int).toNat), .int .i64 16] rfl (by (try simp only [List.map_toArray, List.map_cons, List.map_nil]); first | done | (simp only [hji34]; rfl) | rfl | (simp only [List.length_drop, List.length_take]; rfl)) ?_; (with_reducible refine (strataref01_ReadFixed32.calls (a0.extract (a1 : Int).toNat ((ji34) : Int).toNat) 16 t154 t155 t156 _ A38.out).mono ?_); rintro e w' ⟨rfl, ⟨nd, rfl⟩⟩; refine ⟨_, rfl, ?_⟩; (try (rw [drewN_self wc]; generalize hq_ : World.drewN wc _ = wc; have n0_ : Aside0 (wc.heap[gb142]? = some (.cells #[.int .i64 0, .int .u64 0, .string (⟨#[]⟩ : ByteArray)] 24 (0, 0))) := ⟨by rw [← hq_]; exact (by (with_reducible repeat (first | refine blk_drewN ?_ _ | refine blk_drew ?_ | refine blk_alloc ?_ _)); exact BK142.out)⟩; have n1_ : Aside0 (Below w.heap.size w wc) := ⟨by rw [← hq_]; exact (by repeat (first | (with_reducible first | exact HB.out | apply below_alloc | apply pw_below_drewN | apply below_drew1 | refine below_set ?_ GE142.out) | exact HB.out))⟩; clear BK142 HB hq_; have BK142 := n0_; have HB := n1_; clear n0_ n1_))) | ((with_reducible refine gate_callee (f := 47) rfl ?_); refine goesL_ (some 117) rfl rfl Tryd.func47 (by kernel_rfl) rfl #[.string (a0.extract ((ji34) : Int).toNat ((wrap64 ((ji34) + (wrap64 (t147)))) : Int).toNat)] rfl (by (try simp only [List.map_toArray, List.map_cons, List.map_nil]); first | done | (simp only [hji34]; rfl) | rfl | (simp only [List.length_drop, List.length_take]; rfl)) ?_; (with_reducible refine (strataref11_sum.calls kj24 (a0.extract ((ji34) : Int).toNat ((wrap64 ((ji34) + (wrap64 (t147)))) : Int).toNat) t157 _ A39.out).mono ?_); rintro e w43 ⟨rfl, hb⟩; refine ⟨_, rfl, ?_⟩; have n0_ := Aside0.mk (blk_below (g := gb142) (o := .cells #[.int .i64 0, .int .u64 0, .string (⟨#[]⟩ : ByteArray)] 24 (0, 0)) (by (with_reducible repeat (first | refine blk_drewN ?_ _ | refine blk_drew ?_ | refine blk_alloc ?_ _)); exact BK142.out) hb); have n1_ := Aside0.mk (below_step (by repeat (first | (with_reducible first | exact HB.out | apply below_alloc | apply pw_below_drewN | apply below_drew1 | refine below_set ?_ GE142.out) | exact HB.out)) hb); clear BK142; clear HB; have BK142 := n0_; have HB := n1_; clear n0_ n1_; (try clear hb); (try clear hb2); (try clear hk); (try clear hi); have hcz44_0 : w43.cell? ⟨gb142, 0, none⟩ = some (.int .i64 0) := (blk_cell BK142.out 0).trans rfl; have hcz44_1 : w43.cell? ⟨gb142, 1, none⟩ = some (.int .u64 0) := (blk_cell BK142.out 1).trans rfl; have hcz44_2 : w43.cell? ⟨gb142, 2, none⟩ = some (.string (⟨#[]⟩ : ByteArray)) := (blk_cell BK142.out 2).trans rfl; have hfz44_0 := blk_frozen BK142.out 0; have hfz44_1 := blk_frozen BK142.out 1; have hfz44_2 := blk_frozen BK142.out 2))
                                            refine bodyPost_ret (results_ctt rfl _ _ gb142 24 #[.int .i64 0, .int .u64 0, .string (⟨#[]⟩ : ByteArray)] (0, 0) _ rfl (by (with_reducible repeat (first | refine blk_drewN ?_ _ | refine blk_drew ?_ | refine blk_alloc ?_ _)); refine blk_put (cs := #[.int .i64 0, .int .u64 0, .string (⟨#[]⟩ : ByteArray)]) ?_ 2 _ rfl; (with_reducible repeat (first | refine blk_drewN ?_ _ | refine blk_drew ?_ | refine blk_alloc ?_ _)); refine blk_put (cs := #[.int .i64 0, .int .u64 0, .string (⟨#[]⟩ : ByteArray)]) ?_ 1 _ rfl; (with_reducible repeat (first | refine blk_drewN ?_ _ | refine blk_drew ?_ | refine blk_alloc ?_ _)); refine blk_put (cs := #[.int .i64 0, .int .u64 0, .string (⟨#[]⟩ : ByteArray)]) ?_ 0 _ rfl; (with_reducible repeat (first | refine blk_drewN ?_ _ | refine blk_drew ?_ | refine blk_alloc ?_ _)); exact BK142.out) Tryd.underlying24 rfl (by kernel_rfl)) rfl ?_
                                            exact ⟨by first | rfl | (simp [errW_none, errW_some] <;> rfl) | (simp only [← hji34]; first | rfl | (simp [errW_none, errW_some] <;> rfl)) | (simp [*, errW_none, errW_some] <;> rfl), by repeat (first | (with_reducible first | exact HB.out | apply below_alloc | apply pw_below_drewN | apply below_drew1 | refine below_set ?_ GE142.out) | exact HB.out)⟩
                                        · rw [if_neg c37] at H
                                          exact absurd H (by simp)
                                      · rw [if_neg c36] at H
                                        exact absurd H (by simp)
                                    · rw [if_neg c35] at H
                                      exact absurd H (by simp)
                          · rw [if_neg c22] at H
                            exact absurd H (by simp)
                        · rw [if_neg c19] at H
                          have c19b0 : (t143 == t146) = false := beq_eq_false_iff_ne.mpr c19
                          have c19b1 : (t143 != t146) = true := bne_iff_ne.mpr c19
                          simp only [Option.some.injEq, Prod.mk.injEq] at H
                          obtain ⟨rfl, rfl, rfl, rfl, rfl⟩ := H
                          go_wp2_with (first | ((with_reducible refine gate_callee (f := 50) rfl ?_); refine goesL_ (some 53) rfl rfl Tryd.func50 (by kernel_rfl) rfl #[.string (a0.extract (a1 : Int).toNat ((wrap64 (a1 + 24)) : Int).toNat), .int .i64 20] rfl (by (try simp only [List.map_toArray, List.map_cons, List.map_nil]); first | done | rfl | (simp only [List.length_drop, List.length_take]; rfl)) ?_; (with_reducible refine (strataref01_ReadFixed32.calls (a0.extract (a1 : Int).toNat ((wrap64 (a1 + 24)) : Int).toNat) 20 t143 t144 t145 _ A15.out).mono ?_); rintro e w' ⟨rfl, ⟨nd, rfl⟩⟩; refine ⟨_, rfl, ?_⟩; (try (rw [drewN_self wc]; generalize hq_ : World.drewN wc _ = wc; have n0_ : Aside0 (wc.heap[gb142]? = some (.cells #[.int .i64 0, .int .u64 0, .string (⟨#[]⟩ : ByteArray)] 24 (0, 0))) := ⟨by rw [← hq_]; exact (by (with_reducible repeat (first | refine blk_drewN ?_ _ | refine blk_drew ?_ | refine blk_alloc ?_ _)); exact BK142.out)⟩; have n1_ : Aside0 (Below w.heap.size w wc) := ⟨by rw [← hq_]; exact (by repeat (first | (with_reducible first | exact HB.out | apply below_alloc | apply pw_below_drewN | apply below_drew1 | refine below_set ?_ GE142.out) | exact HB.out))⟩; clear BK142 HB hq_; have BK142 := n0_; have HB := n1_; clear n0_ n1_))) | ((with_reducible refine gate_callee (f := 47) rfl ?_); refine goesL_ (some 60) rfl rfl Tryd.func47 (by kernel_rfl) rfl #[.string ((a0.extract (a1 : Int).toNat ((wrap64 (a1 + 24)) : Int).toNat).extract 0 20)] rfl (by (try simp only [List.map_toArray, List.map_cons, List.map_nil]); first | done | rfl | (simp only [List.length_drop, List.length_take]; rfl)) ?_; (with_reducible refine (strataref11_sum.calls kj2 ((a0.extract (a1 : Int).toNat ((wrap64 (a1 + 24)) : Int).toNat).extract 0 20) t146 _ A18.out).mono ?_); rintro e w45 ⟨rfl, hb⟩; refine ⟨_, rfl, ?_⟩; have n0_ := Aside0.mk (blk_below (g := gb142) (o := .cells #[.int .i64 0, .int .u64 0, .string (⟨#[]⟩ : ByteArray)] 24 (0, 0)) (by (with_reducible repeat (first | refine blk_drewN ?_ _ | refine blk_drew ?_ | refine blk_alloc ?_ _)); exact BK142.out) hb); have n1_ := Aside0.mk (below_step (by repeat (first | (with_reducible first | exact HB.out | apply below_alloc | apply pw_below_drewN | apply below_drew1 | refine below_set ?_ GE142.out) | exact HB.out)) hb); clear BK142; clear HB; have BK142 := n0_; have HB := n1_; clear n0_ n1_; (try clear hb); (try clear hb2); (try clear hk); (try clear hi); have hcz46_0 : w45.cell? ⟨gb142, 0, none⟩ = some (.int .i64 0) := (blk_cell BK142.out 0).trans rfl; have hcz46_1 : w45.cell? ⟨gb142, 1, none⟩ = some (.int .u64 0) := (blk_cell BK142.out 1).trans rfl; have hcz46_2 : w45.cell? ⟨gb142, 2, none⟩ = some (.string (⟨#[]⟩ : ByteArray)) := (blk_cell BK142.out 2).trans rfl; have hfz46_0 := blk_frozen BK142.out 0; have hfz46_1 := blk_frozen BK142.out 1; have hfz46_2 := blk_frozen BK142.out 2))
                          refine bodyPost_ret (results_ctt rfl _ _ gb142 24 #[.int .i64 0, .int .u64 0, .string (⟨#[]⟩ : ByteArray)] (0, 0) _ rfl (by (with_reducible repeat (first | refine blk_drewN ?_ _ | refine blk_drew ?_ | refine blk_alloc ?_ _)); refine blk_put (cs := #[.int .i64 0, .int .u64 0, .string (⟨#[]⟩ : ByteArray)]) ?_ 2 _ rfl; (with_reducible repeat (first | refine blk_drewN ?_ _ | refine blk_drew ?_ | refine blk_alloc ?_ _)); refine blk_put (cs := #[.int .i64 0, .int .u64 0, .string (⟨#[]⟩ : ByteArray)]) ?_ 1 _ rfl; (with_reducible repeat (first | refine blk_drewN ?_ _ | refine blk_drew ?_ | refine blk_alloc ?_ _)); refine blk_put (cs := #[.int .i64 0, .int .u64 0, .string (⟨#[]⟩ : ByteArray)]) ?_ 0 _ rfl; (with_reducible repeat (first | refine blk_drewN ?_ _ | refine blk_drew ?_ | refine blk_alloc ?_ _)); exact BK142.out) Tryd.underlying24 rfl (by kernel_rfl)) rfl ?_
                          exact ⟨by first | rfl | (simp [errW_none, errW_some] <;> rfl) | (simp [*, errW_none, errW_some] <;> rfl), by repeat (first | (with_reducible first | exact HB.out | apply below_alloc | apply pw_below_drewN | apply below_drew1 | refine below_set ?_ GE142.out) | exact HB.out)⟩
                      · rw [if_neg c17] at H
                        exact absurd H (by simp)
                    · rw [if_neg c16] at H
                      exact absurd H (by simp)
                  · rw [if_neg c14] at H
                    have c14b0 : (((a0.extract (a1 : Int).toNat ((wrap64 (a1 + 24)) : Int).toNat).extract 0 2).toList == ([83, 70] : List UInt8)) = false := beq_eq_false_iff_ne.mpr c14
                    have c14b1 : (((a0.extract (a1 : Int).toNat ((wrap64 (a1 + 24)) : Int).toNat).extract 0 2).toList != ([83, 70] : List UInt8)) = true := bne_iff_ne.mpr c14
                    simp only [Option.some.injEq, Prod.mk.injEq] at H
                    obtain ⟨rfl, rfl, rfl, rfl, rfl⟩ := H
                    have hcz47_0 : wc.cell? ⟨gb142, 0, none⟩ = some (.int .i64 0) := (blk_cell BK142.out 0).trans rfl
                    have hcz47_1 : wc.cell? ⟨gb142, 1, none⟩ = some (.int .u64 0) := (blk_cell BK142.out 1).trans rfl
                    have hcz47_2 : wc.cell? ⟨gb142, 2, none⟩ = some (.string (⟨#[]⟩ : ByteArray)) := (blk_cell BK142.out 2).trans rfl
                    have hfz47_0 := blk_frozen BK142.out 0
                    have hfz47_1 := blk_frozen BK142.out 1
                    have hfz47_2 := blk_frozen BK142.out 2
                    go_wp2
                    refine bodyPost_ret (results_ctt rfl _ _ gb142 24 #[.int .i64 0, .int .u64 0, .string (⟨#[]⟩ : ByteArray)] (0, 0) _ rfl (by (with_reducible repeat (first | refine blk_drewN ?_ _ | refine blk_drew ?_ | refine blk_alloc ?_ _)); refine blk_put (cs := #[.int .i64 0, .int .u64 0, .string (⟨#[]⟩ : ByteArray)]) ?_ 2 _ rfl; (with_reducible repeat (first | refine blk_drewN ?_ _ | refine blk_drew ?_ | refine blk_alloc ?_ _)); refine blk_put (cs := #[.int .i64 0, .int .u64 0, .string (⟨#[]⟩ : ByteArray)]) ?_ 1 _ rfl; (with_reducible repeat (first | refine blk_drewN ?_ _ | refine blk_drew ?_ | refine blk_alloc ?_ _)); refine blk_put (cs := #[.int .i64 0, .int .u64 0, .string (⟨#[]⟩ : ByteArray)]) ?_ 0 _ rfl; (with_reducible repeat (first | refine blk_drewN ?_ _ | refine blk_drew ?_ | refine blk_alloc ?_ _)); exact BK142.out) Tryd.underlying24 rfl (by kernel_rfl)) rfl ?_
                    exact ⟨by first | rfl | (simp [errW_none, errW_some] <;> rfl) | (simp [*, errW_none, errW_some] <;> rfl), by repeat (first | (with_reducible first | exact HB.out | apply below_alloc | apply pw_below_drewN | apply below_drew1 | refine below_set ?_ GE142.out) | exact HB.out)⟩
                · rw [if_neg c13] at H
                  exact absurd H (by simp)
              · rw [if_neg c12] at H
                exact absurd H (by simp)
            · rw [if_neg c11] at H
              exact absurd H (by simp)
          · rw [if_neg c10] at H
            exact absurd H (by simp)
        · rw [if_neg c9] at H
          exact absurd H (by simp)

/-! ### stratalaw11_num: function 11 -/
def stratalaw11_num.f (a0 : Int) : Option (Int) := some a0
set_option maxHeartbeats 8000000 in
set_option maxRecDepth 100000 in
theorem stratalaw11_num.calls (a0 : Int) (r : Int) (w : World) (h : stratalaw11_num.f a0 = some r) :
    Calls Tryd.prog 11 #[.int .i64 a0] w fun e w' => e = .returned (.int .i64 r) ∧ Drawn0 w w' := by
  have H : (some a0) = some r := h
  clear h
  obtain rfl := Option.some.inj H
  go_enter Tryd.func11, Tryd.ntmps11
  go_wp2
  go_ret
  exact ⟨by first | rfl | (simp; done) | (simp [*]; done), by repeat (first | exact Drawn0.refl _ | apply Drawn0.step)⟩

end Go.Proofs.YtdepngppnbobdaaDoor.PFr
