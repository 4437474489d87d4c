-- Written by the kit's print.py, called by xprint.py (a helper of this repo); some functions are taken from texts of this seat that were proved by hand.
import Derived.Test.YtdepngppnbobdaaDoorPFrx0
import Derived.Test.YtdepngppnbobdaaDoorPFrx1
import Derived.Test.YtdepngppnbobdaaDoorPFrx3
namespace Go.Proofs.YtdepngppnbobdaaDoor.PFr
open Go.RowKit Go.Proofs.YtdepngppnbobdaaDoor.HBase Go.Proofs.YtdepngppnbobdaaDoor.HSum Go.Proofs.YtdepngppnbobdaaDoorW.PrintWords Go.Proofs.YtdepngppnbobdaaDoorW.PrintLast Go.Proofs.YtdepngppnbobdaaDoorW.PrintMore
attribute [local go_sem] max2_int min2_int max_two min_two max_three min_three max_four min_four   -- for this text's walks alone
set_option linter.unusedVariables false
set_option linter.unusedSimpArgs false

/-! ### redo_DecodeFrame: function 12 -/
mutual
def redo_DecodeFrame.j0 : Nat → ByteArray → Int → Bool → Option (Int × Int × ByteArray × Int × Int)
  | 0, _, _, _ => none
  | k + 1, x0, x1, x24 => if x24 = true then (some (0, 0, (⟨#[]⟩ : ByteArray), x1, 1)) else (if 0 ≤ x1 then (if x1 ≤ (x0.size : Int) then (if 2 < ((x0.extract (x1 : Int).toNat x0.size).size : Int) then ((redo_word64.f (x0.extract (x1 : Int).toNat x0.size) 8).bind fun t128 => ((redo_word32.f (x0.extract (x1 : Int).toNat x0.size) 4).bind fun t130 => (if 0 ≤ 2 then (if 2 ≤ ((x0.extract (x1 : Int).toNat x0.size).size : Int) then (if ((x0.extract (x1 : Int).toNat x0.size).extract 0 2).toList = ([83, 70] : List UInt8) then ((redo_word32.f (x0.extract (x1 : Int).toNat x0.size) 20).bind fun t131 => (if 0 ≤ 20 then (if 20 ≤ ((x0.extract (x1 : Int).toNat x0.size).size : Int) then ((bits_Checksum.f k (([(x0.extract (x1 : Int).toNat x0.size).extract 0 20] : List ByteArray))).bind fun t135 => (if t131 = t135 then (if 3 < ((x0.extract (x1 : Int).toNat x0.size).size : Int) then (if (bt (x0.extract (x1 : Int).toNat x0.size) 3) = 0 then ((redo_fits.f k (wrap64 (bt (x0.extract (x1 : Int).toNat x0.size) 2)) t128 (wrap64 (t130))).bind fun t136 => (redo_DecodeFrame.j1 k x1 (x0.extract (x1 : Int).toNat x0.size) (wrap64 (t130)) (!t136) (wrap64 (bt (x0.extract (x1 : Int).toNat x0.size) 2)) t128 (⟨#[]⟩ : ByteArray))) else (redo_DecodeFrame.j1 k x1 (x0.extract (x1 : Int).toNat x0.size) (wrap64 (t130)) true (wrap64 (bt (x0.extract (x1 : Int).toNat x0.size) 2)) t128 (⟨#[]⟩ : ByteArray))) else (none)) else (some (0, 0, (⟨#[]⟩ : ByteArray), x1, 3)))) else (none)) else (none))) else (some (0, 0, (⟨#[]⟩ : ByteArray), x1, 2))) else (none)) else (none)))) else (none)) else (none)) else (none))
def redo_DecodeFrame.j1 : Nat → Int → ByteArray → Int → Bool → Int → Int → ByteArray → Option (Int × Int × ByteArray × Int × Int)
  | 0, _, _, _, _, _, _, _ => none
  | k + 1, x1, x7, x9, x55, x130000, x130001, x130002 => if x55 = true then (some (0, 0, (⟨#[]⟩ : ByteArray), x1, 4)) else (if x9 > (wrap64 ((x7.size : Int) - 24)) then (some (0, 0, (⟨#[]⟩ : ByteArray), x1, 1)) else (if 24 ≤ (wrap64 (24 + x9)) then (if (wrap64 (24 + x9)) ≤ (x7.size : Int) then ((redo_word32.f x7 16).bind fun t137 => ((bits_Checksum.f k (([x7.extract 24 ((wrap64 (24 + x9)) : Int).toNat] : List ByteArray))).bind fun t141 => (if t137 = t141 then (some (x130000, x130001, x7.extract 24 ((wrap64 (24 + x9)) : Int).toNat, wrap64 ((wrap64 (x1 + 24)) + x9), 0)) else (some (0, 0, (⟨#[]⟩ : ByteArray), x1, 5))))) else (none)) else (none)))
end
def redo_DecodeFrame.f (k : Nat) (a0 : ByteArray) (a1 : Int) : Option (Int × Int × ByteArray × Int × Int) := if a1 < 0 then (redo_DecodeFrame.j0 k a0 a1 true) else (if a1 > (a0.size : Int) then (redo_DecodeFrame.j0 k a0 a1 true) else (redo_DecodeFrame.j0 k a0 a1 (decide ((wrap64 ((a0.size : Int) - a1)) < 24))))
theorem redo_DecodeFrame.mono_l : ∀ k, (∀ y0 y1 y2, LeO (redo_DecodeFrame.j0 k y0 y1 y2) (redo_DecodeFrame.j0 (k + 1) y0 y1 y2)) ∧ (∀ y0 y1 y2 y3 y4 y5 y6, LeO (redo_DecodeFrame.j1 k y0 y1 y2 y3 y4 y5 y6) (redo_DecodeFrame.j1 (k + 1) y0 y1 y2 y3 y4 y5 y6))
  | 0 => ⟨fun _ _ _ r h => by simp [redo_DecodeFrame.j0] at h, fun _ _ _ _ _ _ _ r h => by simp [redo_DecodeFrame.j1] at h⟩
  | k + 1 => by
    obtain ⟨ih0, ih1⟩ := redo_DecodeFrame.mono_l k
    refine ⟨?_, ?_⟩
    · intro y0 y1 y2
      unfold redo_DecodeFrame.j0
      repeat' first
      | (with_reducible exact ih0 _ _ _)
      | (with_reducible exact ih1 _ _ _ _ _ _ _)
      | (with_reducible exact bits_Checksum.mono _ _)
      | (with_reducible exact redo_fits.mono _ _ _ _)
      | (with_reducible exact LeO.refl _)
      | (with_reducible exact LeO.none _)
      | (with_reducible refine LeO.ite ?_ ?_)
      | (with_reducible refine LeO.bind ?_ (fun _ => ?_))
      | exact ih0 _ _ _
      | exact ih1 _ _ _ _ _ _ _
      | exact bits_Checksum.mono _ _
      | exact redo_fits.mono _ _ _ _
      | exact LeO.none _
      | refine LeO.ite ?_ ?_
      | refine LeO.bind ?_ (fun _ => ?_)
    · intro y0 y1 y2 y3 y4 y5 y6
      unfold redo_DecodeFrame.j1
      repeat' first
      | (with_reducible exact ih0 _ _ _)
      | (with_reducible exact ih1 _ _ _ _ _ _ _)
      | (with_reducible exact bits_Checksum.mono _ _)
      | (with_reducible exact redo_fits.mono _ _ _ _)
      | (with_reducible exact LeO.refl _)
      | (with_reducible exact LeO.none _)
      | (with_reducible refine LeO.ite ?_ ?_)
      | (with_reducible refine LeO.bind ?_ (fun _ => ?_))
      | exact ih0 _ _ _
      | exact ih1 _ _ _ _ _ _ _
      | exact bits_Checksum.mono _ _
      | exact redo_fits.mono _ _ _ _
      | exact LeO.none _
      | refine LeO.ite ?_ ?_
      | refine LeO.bind ?_ (fun _ => ?_)
theorem redo_DecodeFrame.mono : ∀ a0 a1 k, LeO (redo_DecodeFrame.f k a0 a1) (redo_DecodeFrame.f (k + 1) a0 a1) := by
  intro a0 a1 k
  obtain ⟨ih0, ih1⟩ := redo_DecodeFrame.mono_l k
  unfold redo_DecodeFrame.f
  repeat' first
      | (with_reducible exact ih0 _ _ _)
      | (with_reducible exact ih1 _ _ _ _ _ _ _)
      | (with_reducible exact bits_Checksum.mono _ _)
      | (with_reducible exact redo_fits.mono _ _ _ _)
      | (with_reducible exact LeO.refl _)
      | (with_reducible exact LeO.none _)
      | (with_reducible refine LeO.ite ?_ ?_)
      | (with_reducible refine LeO.bind ?_ (fun _ => ?_))
      | exact ih0 _ _ _
      | exact ih1 _ _ _ _ _ _ _
      | exact bits_Checksum.mono _ _
      | exact redo_fits.mono _ _ _ _
      | exact LeO.none _
      | refine LeO.ite ?_ ?_
      | refine LeO.bind ?_ (fun _ => ?_)
def redo_DecodeFrame.T4 : Bool × List (List Nat × List Nat) := (true, [([], []), ([0], [0]), ([1], [1]), ([], []), ([3], [3]), ([2, 4], [2, 4]), ([], []), ([6, 5, 4, 0, 1, 2, 3, 4, 5, 6], [5, 6])])
def redo_DecodeFrame.B4 : List Nat := [0, 1, 3, 0, 8, 31, 0, 127]
theorem redo_DecodeFrame.tab4 : rtab .any (opsOf Tryd.f12 4) = redo_DecodeFrame.T4 := by kernel_rfl
theorem redo_DecodeFrame.bits4 : waitsOk redo_DecodeFrame.T4.2 redo_DecodeFrame.B4 = true := by kernel_rfl
def redo_DecodeFrame.T8 : Bool × List (List Nat × List Nat) := (true, [([], []), ([0], [0]), ([], []), ([2], [2]), ([3], [3]), ([4, 1], [4]), ([1, 5], [1, 5]), ([6, 5], [6])])
def redo_DecodeFrame.B8 : List Nat := [0, 1, 0, 4, 12, 31, 63, 127]
theorem redo_DecodeFrame.tab8 : rtab .any (opsOf Tryd.f12 8) = redo_DecodeFrame.T8 := by kernel_rfl
theorem redo_DecodeFrame.bits8 : waitsOk redo_DecodeFrame.T8.2 redo_DecodeFrame.B8 = true := by kernel_rfl
set_option maxHeartbeats 8000000 in
set_option maxRecDepth 100000 in
theorem redo_DecodeFrame.calls (k : Nat) (a0 : ByteArray) (a1 : Int) (r1 : Int) (r2 : Int) (r3 : ByteArray) (r4 : Int) (r5 : Int) (w : World) (h : redo_DecodeFrame.f k a0 a1 = some (r1, r2, r3, r4, r5)) (hT : Tab w) :
    Calls Tryd.prog 12 #[.string a0, .int .i64 a1] w fun e w' => e = .returned (.tuple #[.agg #[.int .i64 r1, .int .u64 r2, .string r3], .int .i64 r4, .int .i64 r5]) ∧ Below w.heap.size w w' := by
  have hu24 := Tryd.underlying24
  have HB := Aside0.mk (Below.refl w.heap.size w)
  have H : (if a1 < 0 then (redo_DecodeFrame.j0 k a0 a1 true) else (if a1 > (a0.size : Int) then (redo_DecodeFrame.j0 k a0 a1 true) else (redo_DecodeFrame.j0 k a0 a1 (decide ((wrap64 ((a0.size : Int) - a1)) < 24))))) = some (r1, r2, r3, r4, r5) := h
  clear h
  have HC3 := Aside0.mk H
  clear H
  go_enter Tryd.func12, Tryd.ntmps12
  go_upto_region 1 with (first | ((with_reducible refine gate_dst (N := 4) rfl ?_); (try (refine gate_guard (by rfl) ?_; dsimp only)); refine box_event ?hg (N := 4) ?hd (cs := #[.int .i64 0, .int .u64 0, .string (⟨#[]⟩ : ByteArray)]) (t := 24) ?hr ?_; (case hd => rfl); (case hg => rfl); (case hr => first | (go_simp; done) | (go_simp; rfl)); intro gb127 hg w4 hbox hb; have n0_ := Aside0.mk (below_step (by repeat (first | (with_reducible first | exact HB.out | apply below_alloc | apply pw_below_drewN | apply below_drew1) | exact HB.out)) hb); have n1_ := Aside0.mk (hbox); have n2_ := Aside0.mk ((by rw [hg]; exact (below_size (by repeat (first | (with_reducible first | exact HB.out | apply below_alloc | apply pw_below_drewN | apply below_drew1) | exact HB.out))) : w.heap.size ≤ gb127)); have n3_ := Aside0.mk ((by rw [hg]; exact (below_size (by repeat (first | (with_reducible first | exact HB.out | apply below_alloc | apply pw_below_drewN | apply below_drew1) | exact HB.out))) : w.heap.size ≤ gb127)); clear HB; have HB := n0_; have BK127 := n1_; have GW127 := n2_; have GE127 := n3_; clear n0_ n1_ n2_ n3_; clear hb hbox hg))
  (try simp only [Act.put, List.setIfInBounds_toArray, List.set_cons_zero, List.set_cons_succ])
  go_cut [24] (fun v24 wc => ∃ (kq : Nat) (x24_2 : Bool), v24 = .bool x24_2 ∧ Aside0 (redo_DecodeFrame.j0 kq a0 a1 x24_2 = some (r1, r2, r3, r4, r5)) ∧ Aside0 (kq ≤ k) ∧ Aside0 (wc.heap[gb127]? = some (.cells #[.int .i64 0, .int .u64 0, .string (⟨#[]⟩ : ByteArray)] 24 (0, 0))) ∧ Aside0 (Below w.heap.size w wc))
  case first =>
    have H := HC3.out
    clear HC3
    by_cases c5 : a1 < 0
    · rw [if_pos c5] at H
      have c5b0 : decide (a1 < 0) = true := decide_eq_true c5
      clear c5
      (first | rw [c5b0] | (simp only [i64_w, i32_w]; rw [c5b0]) | skip)
      have H' := Aside0.mk H
      clear H
      go_wp2
      go_meet
      case rel => exact ⟨_, (true), (by first | rfl | (simp; done) | (simp [*]; done)), H', ⟨by first | omega | exact Nat.le_refl _⟩, ⟨by (with_reducible repeat (first | refine blk_drewN ?_ _ | refine blk_drew ?_ | refine blk_alloc ?_ _)); exact BK127.out⟩, ⟨by repeat (first | (with_reducible first | exact HB.out | apply below_alloc | apply pw_below_drewN | apply below_drew1 | refine below_set ?_ GE127.out) | exact HB.out)⟩⟩
    · rw [if_neg c5] at H
      have c5b0 : decide (a1 < 0) = false := decide_eq_false c5
      clear c5
      (first | rw [c5b0] | (simp only [i64_w, i32_w]; rw [c5b0]) | skip)
      by_cases c6 : a1 > (a0.size : Int)
      · rw [if_pos c6] at H
        have c6b0 : decide ((a0.size : Int) < a1) = true := decide_eq_true c6
        clear c6
        have H' := Aside0.mk H
        clear H
        go_wp2
        go_meet
        case rel => exact ⟨_, (true), (by first | rfl | (simp; done) | (simp [*]; done)), H', ⟨by first | omega | exact Nat.le_refl _⟩, ⟨by (with_reducible repeat (first | refine blk_drewN ?_ _ | refine blk_drew ?_ | refine blk_alloc ?_ _)); exact BK127.out⟩, ⟨by repeat (first | (with_reducible first | exact HB.out | apply below_alloc | apply pw_below_drewN | apply below_drew1 | refine below_set ?_ GE127.out) | exact HB.out)⟩⟩
      · rw [if_neg c6] at H
        have c6b0 : decide ((a0.size : Int) < a1) = false := decide_eq_false c6
        clear c6
        have H' := Aside0.mk H
        clear H
        go_wp2
        go_meet
        case rel => exact ⟨_, (decide ((wrap64 ((a0.size : Int) - a1)) < 24)), (by first | rfl | (simp; done) | (simp [*]; done)), H', ⟨by first | omega | exact Nat.le_refl _⟩, ⟨by (with_reducible repeat (first | refine blk_drewN ?_ _ | refine blk_drew ?_ | refine blk_alloc ?_ _)); exact BK127.out⟩, ⟨by repeat (first | (with_reducible first | exact HB.out | apply below_alloc | apply pw_below_drewN | apply below_drew1 | refine below_set ?_ GE127.out) | exact HB.out)⟩⟩
  case rest =>
    clear HC3
    try clear c1
    try clear p2
    try clear c5
    try clear c5b0
    try clear c6
    try clear c6b0
    try clear p6
    obtain ⟨kq, x24_2, rfl, HA, HJ2, BK127, HB⟩ := hcut
    cases kq with
    | zero => exact absurd HA.out (by simp [redo_DecodeFrame.j0])
    | succ kj2 =>
      have H := HA.out
      clear HA
      simp only [redo_DecodeFrame.j0] at H
      by_cases c7 : x24_2 = true
      · subst c7
        have H1 : (some (0, 0, (⟨#[]⟩ : ByteArray), a1, 1)) = some (r1, r2, r3, r4, r5) := by rw [if_pos rfl] at H; exact H
        clear H
        have H := H1
        clear H1
        simp only [Option.some.injEq, Prod.mk.injEq] at H
        obtain ⟨rfl, rfl, rfl, rfl, rfl⟩ := H
        have hcz8_0 : wc.cell? ⟨gb127, 0, none⟩ = some (.int .i64 0) := (blk_cell BK127.out 0).trans rfl
        have hcz8_1 : wc.cell? ⟨gb127, 1, none⟩ = some (.int .u64 0) := (blk_cell BK127.out 1).trans rfl
        have hcz8_2 : wc.cell? ⟨gb127, 2, none⟩ = some (.string (⟨#[]⟩ : ByteArray)) := (blk_cell BK127.out 2).trans rfl
        have hfz8_0 := blk_frozen BK127.out 0
        have hfz8_1 := blk_frozen BK127.out 1
        have hfz8_2 := blk_frozen BK127.out 2
        go_wp2
        refine bodyPost_ret (results_ctt rfl _ _ gb127 24 #[.int .i64 0, .int .u64 0, .string (⟨#[]⟩ : ByteArray)] (0, 0) _ rfl (by (with_reducible repeat (first | refine blk_drewN ?_ _ | refine blk_drew ?_ | refine blk_alloc ?_ _)); refine blk_put (cs := #[.int .i64 0, .int .u64 0, .string (⟨#[]⟩ : ByteArray)]) ?_ 2 _ rfl; (with_reducible repeat (first | refine blk_drewN ?_ _ | refine blk_drew ?_ | refine blk_alloc ?_ _)); refine blk_put (cs := #[.int .i64 0, .int .u64 0, .string (⟨#[]⟩ : ByteArray)]) ?_ 1 _ rfl; (with_reducible repeat (first | refine blk_drewN ?_ _ | refine blk_drew ?_ | refine blk_alloc ?_ _)); refine blk_put (cs := #[.int .i64 0, .int .u64 0, .string (⟨#[]⟩ : ByteArray)]) ?_ 0 _ rfl; (with_reducible repeat (first | refine blk_drewN ?_ _ | refine blk_drew ?_ | refine blk_alloc ?_ _)); exact BK127.out) Tryd.underlying24 rfl (by kernel_rfl)) rfl ?_
        exact ⟨by first | rfl | (simp [errW_none, errW_some] <;> rfl) | (simp [*, errW_none, errW_some] <;> rfl), by repeat (first | (with_reducible first | exact HB.out | apply below_alloc | apply pw_below_drewN | apply below_drew1 | refine below_set ?_ GE127.out) | exact HB.out)⟩
      · replace c7 := Bool.eq_false_iff.mpr c7
        subst c7
        have H1 : (if 0 ≤ a1 then (if a1 ≤ (a0.size : Int) then (if 2 < ((a0.extract (a1 : Int).toNat a0.size).size : Int) then ((redo_word64.f (a0.extract (a1 : Int).toNat a0.size) 8).bind fun t128 => ((redo_word32.f (a0.extract (a1 : Int).toNat a0.size) 4).bind fun t130 => (if 0 ≤ 2 then (if 2 ≤ ((a0.extract (a1 : Int).toNat a0.size).size : Int) then (if ((a0.extract (a1 : Int).toNat a0.size).extract 0 2).toList = ([83, 70] : List UInt8) then ((redo_word32.f (a0.extract (a1 : Int).toNat a0.size) 20).bind fun t131 => (if 0 ≤ 20 then (if 20 ≤ ((a0.extract (a1 : Int).toNat a0.size).size : Int) then ((bits_Checksum.f kj2 (([(a0.extract (a1 : Int).toNat a0.size).extract 0 20] : List ByteArray))).bind fun t135 => (if t131 = t135 then (if 3 < ((a0.extract (a1 : Int).toNat a0.size).size : Int) then (if (bt (a0.extract (a1 : Int).toNat a0.size) 3) = 0 then ((redo_fits.f kj2 (wrap64 (bt (a0.extract (a1 : Int).toNat a0.size) 2)) t128 (wrap64 (t130))).bind fun t136 => (redo_DecodeFrame.j1 kj2 a1 (a0.extract (a1 : Int).toNat a0.size) (wrap64 (t130)) (!t136) (wrap64 (bt (a0.extract (a1 : Int).toNat a0.size) 2)) t128 (⟨#[]⟩ : ByteArray))) else (redo_DecodeFrame.j1 kj2 a1 (a0.extract (a1 : Int).toNat a0.size) (wrap64 (t130)) true (wrap64 (bt (a0.extract (a1 : Int).toNat a0.size) 2)) t128 (⟨#[]⟩ : ByteArray))) else (none)) else (some (0, 0, (⟨#[]⟩ : ByteArray), a1, 3)))) else (none)) else (none))) else (some (0, 0, (⟨#[]⟩ : ByteArray), a1, 2))) else (none)) else (none)))) else (none)) else (none)) else (none)) = some (r1, r2, r3, r4, r5) := by rw [if_neg (show ¬ (false = true) by decide)] at H; exact H
        clear H
        have H := H1
        clear H1
        by_cases c9 : 0 ≤ a1
        · rw [if_pos c9] at H
          have c9b0 := eq_true c9
          have c9b1 : decide (0 ≤ a1) = true := decide_eq_true c9
          clear c9
          by_cases c10 : a1 ≤ (a0.size : Int)
          · rw [if_pos c10] at H
            have c10b0 := eq_true c10
            have c10b1 : decide (a1 ≤ (a0.size : Int)) = true := decide_eq_true c10
            clear c10
            by_cases c11 : 2 < ((a0.extract (a1 : Int).toNat a0.size).size : Int)
            · rw [if_pos c11] at H
              have c11b0 : decide (2 < ((a0.extract (a1 : Int).toNat a0.size).size : Int)) = true := decide_eq_true c11
              have c11b0n4 : decide (2 < ((a0.size - (a1 : Int).toNat : Nat) : Int)) = true := by have h := c11b0; rw [ByteArray.size_extract, Nat.min_self] at h; exact h -- fixfr
              have c11b0n5 : (2 < ((a0.size - (a1 : Int).toNat : Nat) : Int)) = True := eq_true (of_decide_eq_true c11b0n4) -- fixfr
              have c11b1 : decide (2 < (a0.extract (a1 : Int).toNat a0.size).size) = true := decide_eq_true (by omega)
              clear c11
              replace H := Option.bind_eq_some_iff.mp H
              obtain ⟨t128, A130, H⟩ := H
              replace H : ((redo_word32.f (a0.extract (a1 : Int).toNat a0.size) 4).bind fun t130 => (if 0 ≤ 2 then (if 2 ≤ ((a0.extract (a1 : Int).toNat a0.size).size : Int) then (if ((a0.extract (a1 : Int).toNat a0.size).extract 0 2).toList = ([83, 70] : List UInt8) then ((redo_word32.f (a0.extract (a1 : Int).toNat a0.size) 20).bind fun t131 => (if 0 ≤ 20 then (if 20 ≤ ((a0.extract (a1 : Int).toNat a0.size).size : Int) then ((bits_Checksum.f kj2 (([(a0.extract (a1 : Int).toNat a0.size).extract 0 20] : List ByteArray))).bind fun t135 => (if t131 = t135 then (if 3 < ((a0.extract (a1 : Int).toNat a0.size).size : Int) then (if (bt (a0.extract (a1 : Int).toNat a0.size) 3) = 0 then ((redo_fits.f kj2 (wrap64 (bt (a0.extract (a1 : Int).toNat a0.size) 2)) t128 (wrap64 (t130))).bind fun t136 => (redo_DecodeFrame.j1 kj2 a1 (a0.extract (a1 : Int).toNat a0.size) (wrap64 (t130)) (!t136) (wrap64 (bt (a0.extract (a1 : Int).toNat a0.size) 2)) t128 (⟨#[]⟩ : ByteArray))) else (redo_DecodeFrame.j1 kj2 a1 (a0.extract (a1 : Int).toNat a0.size) (wrap64 (t130)) true (wrap64 (bt (a0.extract (a1 : Int).toNat a0.size) 2)) t128 (⟨#[]⟩ : ByteArray))) else (none)) else (some (0, 0, (⟨#[]⟩ : ByteArray), a1, 3)))) else (none)) else (none))) else (some (0, 0, (⟨#[]⟩ : ByteArray), a1, 2))) else (none)) else (none))) = some (r1, r2, r3, r4, r5) := H
              have A13 := Aside0.mk A130
              clear A130
              replace H := Option.bind_eq_some_iff.mp H
              obtain ⟨t130, A140, H⟩ := H
              replace H : (if 0 ≤ 2 then (if 2 ≤ ((a0.extract (a1 : Int).toNat a0.size).size : Int) then (if ((a0.extract (a1 : Int).toNat a0.size).extract 0 2).toList = ([83, 70] : List UInt8) then ((redo_word32.f (a0.extract (a1 : Int).toNat a0.size) 20).bind fun t131 => (if 0 ≤ 20 then (if 20 ≤ ((a0.extract (a1 : Int).toNat a0.size).size : Int) then ((bits_Checksum.f kj2 (([(a0.extract (a1 : Int).toNat a0.size).extract 0 20] : List ByteArray))).bind fun t135 => (if t131 = t135 then (if 3 < ((a0.extract (a1 : Int).toNat a0.size).size : Int) then (if (bt (a0.extract (a1 : Int).toNat a0.size) 3) = 0 then ((redo_fits.f kj2 (wrap64 (bt (a0.extract (a1 : Int).toNat a0.size) 2)) t128 (wrap64 (t130))).bind fun t136 => (redo_DecodeFrame.j1 kj2 a1 (a0.extract (a1 : Int).toNat a0.size) (wrap64 (t130)) (!t136) (wrap64 (bt (a0.extract (a1 : Int).toNat a0.size) 2)) t128 (⟨#[]⟩ : ByteArray))) else (redo_DecodeFrame.j1 kj2 a1 (a0.extract (a1 : Int).toNat a0.size) (wrap64 (t130)) true (wrap64 (bt (a0.extract (a1 : Int).toNat a0.size) 2)) t128 (⟨#[]⟩ : ByteArray))) else (none)) else (some (0, 0, (⟨#[]⟩ : ByteArray), a1, 3)))) else (none)) else (none))) else (some (0, 0, (⟨#[]⟩ : ByteArray), a1, 2))) else (none)) else (none)) = some (r1, r2, r3, r4, r5) := H
              have A14 := Aside0.mk A140
              clear A140
              by_cases c15 : 0 ≤ 2
              · rw [if_pos c15] at H
                have c15b0 := eq_true c15
                have c15b1 : decide (0 ≤ 2) = true := decide_eq_true c15
                clear c15
                by_cases c16 : 2 ≤ ((a0.extract (a1 : Int).toNat a0.size).size : Int)
                · rw [if_pos c16] at H
                  have c16b0 := eq_true c16
                  have c16b1 : decide (2 ≤ ((a0.extract (a1 : Int).toNat a0.size).size : Int)) = true := decide_eq_true c16
                  have c16b1n4 : decide (2 ≤ ((a0.size - (a1 : Int).toNat : Nat) : Int)) = true := by have h := c16b1; rw [ByteArray.size_extract, Nat.min_self] at h; exact h -- fixfr
                  have c16b1n5 : (2 ≤ ((a0.size - (a1 : Int).toNat : Nat) : Int)) = True := eq_true (of_decide_eq_true c16b1n4) -- fixfr
                  clear c16
                  by_cases c17 : ((a0.extract (a1 : Int).toNat a0.size).extract 0 2).toList = ([83, 70] : List UInt8)
                  · rw [if_pos c17] at H
                    have c17b0 : (((a0.extract (a1 : Int).toNat a0.size).extract 0 2).toList == ([83, 70] : List UInt8)) = true := beq_iff_eq.mpr c17
                    have c17b1 : (((a0.extract (a1 : Int).toNat a0.size).extract 0 2).toList != ([83, 70] : List UInt8)) = false := bne_eq_false_iff_eq.mpr c17
                    clear c17
                    replace H := Option.bind_eq_some_iff.mp H
                    obtain ⟨t131, A180, H⟩ := H
                    replace H : (if 0 ≤ 20 then (if 20 ≤ ((a0.extract (a1 : Int).toNat a0.size).size : Int) then ((bits_Checksum.f kj2 (([(a0.extract (a1 : Int).toNat a0.size).extract 0 20] : List ByteArray))).bind fun t135 => (if t131 = t135 then (if 3 < ((a0.extract (a1 : Int).toNat a0.size).size : Int) then (if (bt (a0.extract (a1 : Int).toNat a0.size) 3) = 0 then ((redo_fits.f kj2 (wrap64 (bt (a0.extract (a1 : Int).toNat a0.size) 2)) t128 (wrap64 (t130))).bind fun t136 => (redo_DecodeFrame.j1 kj2 a1 (a0.extract (a1 : Int).toNat a0.size) (wrap64 (t130)) (!t136) (wrap64 (bt (a0.extract (a1 : Int).toNat a0.size) 2)) t128 (⟨#[]⟩ : ByteArray))) else (redo_DecodeFrame.j1 kj2 a1 (a0.extract (a1 : Int).toNat a0.size) (wrap64 (t130)) true (wrap64 (bt (a0.extract (a1 : Int).toNat a0.size) 2)) t128 (⟨#[]⟩ : ByteArray))) else (none)) else (some (0, 0, (⟨#[]⟩ : ByteArray), a1, 3)))) else (none)) else (none)) = some (r1, r2, r3, r4, r5) := H
                    have A18 := Aside0.mk A180
                    clear A180
                    by_cases c19 : 0 ≤ 20
                    · rw [if_pos c19] at H
                      have c19b0 := eq_true c19
                      have c19b1 : decide (0 ≤ 20) = true := decide_eq_true c19
                      clear c19
                      by_cases c20 : 20 ≤ ((a0.extract (a1 : Int).toNat a0.size).size : Int)
                      · rw [if_pos c20] at H
                        have c20b0 := eq_true c20
                        have c20b1 : decide (20 ≤ ((a0.extract (a1 : Int).toNat a0.size).size : Int)) = true := decide_eq_true c20
                        have c20b1n4 : decide (20 ≤ ((a0.size - (a1 : Int).toNat : Nat) : Int)) = true := by have h := c20b1; rw [ByteArray.size_extract, Nat.min_self] at h; exact h -- fixfr
                        have c20b1n5 : (20 ≤ ((a0.size - (a1 : Int).toNat : Nat) : Int)) = True := eq_true (of_decide_eq_true c20b1n4) -- fixfr
                        clear c20
                        obtain ⟨y132, hy132⟩ : ∃ y_ : List ByteArray, y_ = (([(a0.extract (a1 : Int).toNat a0.size).extract 0 20] : List ByteArray)) := ⟨_, rfl⟩
                        replace H : ((bits_Checksum.f kj2 y132).bind fun t135 => (if t131 = t135 then (if 3 < ((a0.extract (a1 : Int).toNat a0.size).size : Int) then (if (bt (a0.extract (a1 : Int).toNat a0.size) 3) = 0 then ((redo_fits.f kj2 (wrap64 (bt (a0.extract (a1 : Int).toNat a0.size) 2)) t128 (wrap64 (t130))).bind fun t136 => (redo_DecodeFrame.j1 kj2 a1 (a0.extract (a1 : Int).toNat a0.size) (wrap64 (t130)) (!t136) (wrap64 (bt (a0.extract (a1 : Int).toNat a0.size) 2)) t128 (⟨#[]⟩ : ByteArray))) else (redo_DecodeFrame.j1 kj2 a1 (a0.extract (a1 : Int).toNat a0.size) (wrap64 (t130)) true (wrap64 (bt (a0.extract (a1 : Int).toNat a0.size) 2)) t128 (⟨#[]⟩ : ByteArray))) else (none)) else (some (0, 0, (⟨#[]⟩ : ByteArray), a1, 3)))) = some (r1, r2, r3, r4, r5) := by first | (rw [hy132]; with_reducible exact H) | (have H2_ := (Option.bind_some _ _).symm.trans H; rw [hy132]; with_reducible exact H2_) | (have H2_ := (Option.bind_some _ _).symm.trans H; with_reducible exact H2_) | with_reducible exact H | (rw [hy132]; exact H) | exact H
                        have Ny132 := Aside0.mk hy132
                        clear hy132
                        replace H := Option.bind_eq_some_iff.mp H
                        obtain ⟨t135, A210, H⟩ := H
                        replace H : (if t131 = t135 then (if 3 < ((a0.extract (a1 : Int).toNat a0.size).size : Int) then (if (bt (a0.extract (a1 : Int).toNat a0.size) 3) = 0 then ((redo_fits.f kj2 (wrap64 (bt (a0.extract (a1 : Int).toNat a0.size) 2)) t128 (wrap64 (t130))).bind fun t136 => (redo_DecodeFrame.j1 kj2 a1 (a0.extract (a1 : Int).toNat a0.size) (wrap64 (t130)) (!t136) (wrap64 (bt (a0.extract (a1 : Int).toNat a0.size) 2)) t128 (⟨#[]⟩ : ByteArray))) else (redo_DecodeFrame.j1 kj2 a1 (a0.extract (a1 : Int).toNat a0.size) (wrap64 (t130)) true (wrap64 (bt (a0.extract (a1 : Int).toNat a0.size) 2)) t128 (⟨#[]⟩ : ByteArray))) else (none)) else (some (0, 0, (⟨#[]⟩ : ByteArray), a1, 3))) = some (r1, r2, r3, r4, r5) := H
                        have A21 := Aside0.mk A210
                        clear A210
                        by_cases c22 : t131 = t135
                        · rw [if_pos c22] at H
                          have c22b0 : (t131 == t135) = true := beq_iff_eq.mpr c22
                          have c22b1 : (t131 != t135) = false := bne_eq_false_iff_eq.mpr c22
                          clear c22
                          have HC23 := Aside0.mk H
                          clear H
                          try go_wp2
                          have n0_ := Aside0.mk (blk_drew BK127.out)
                          have n1_ := Aside0.mk (below_drew1 HB.out)
                          clear BK127
                          clear HB
                          have BK127 := n0_
                          have HB := n1_
                          clear n0_ n1_
                          have p12 : 0 ≤ (2 : Int) := (by omega)
                          have q12 : 2 < (a0.extract (a1 : Int).toNat a0.size).size := (by have : (2 : Int) < ((a0.extract (a1 : Int).toNat a0.size).size : Int) := of_decide_eq_true (by first | (with_reducible assumption) | assumption); omega)
                          have hx12 : ∀ h : 2 < (a0.extract (a1 : Int).toNat a0.size).size, (((a0.extract (a1 : Int).toNat a0.size)[2]'h).toNat : Int) = bt (a0.extract (a1 : Int).toNat a0.size) 2 := bt_at (a0.extract (a1 : Int).toNat a0.size) 2
                          clear p12
                          have qi12 : (2 < ((a0.extract (a1 : Int).toNat a0.size).size : Int)) = True := eq_true (of_decide_eq_true (by first | (with_reducible assumption) | assumption))
                          have qi12n4 : decide (2 < ((a0.size - (a1 : Int).toNat : Nat) : Int)) = true := by have h := decide_eq_true (of_eq_true qi12); rw [ByteArray.size_extract, Nat.min_self] at h; exact h -- fixfr
                          have qi12n5 : (2 < ((a0.size - (a1 : Int).toNat : Nat) : Int)) = True := eq_true (of_decide_eq_true qi12n4) -- fixfr
                          replace q12 := eq_true q12
                          refine start_ (n := 8) (S := fun w' => True) (ds := []) #[false, false, false, false, false, false, false, false] (by kernel_rfl) rfl rfl trivial (fun hHeld => ?_); refine with_tabW redo_DecodeFrame.tab4 redo_DecodeFrame.bits4 (fun HT_ HW_ => ?_)
                          generalize wc.drew = w24 at BK127 HB hHeld ⊢
                          refine pure_ (i := 0) (N := some 30) (v := ?_) (a' := ?_) #[true, false, false, false, false, false, false, false] rfl rfl (any_of HT_.out (by kernel_rfl)) (fun _ _ _ h => h) (Or.inl ⟨by rfl, ?_⟩) ?_ ?_
                          rotate_left
                          · intro w'
                            go_simp
                            with_reducible rfl
                          rotate_left
                          · simp only [Act.put, List.setIfInBounds_toArray, List.set_cons_zero, List.set_cons_succ, i64_w, i32_w]
                            rfl
                          refine pure_ (i := 3) (N := some 33) (v := ?_) (a' := ?_) #[true, false, false, true, false, false, false, false] rfl rfl (any_of HT_.out (by kernel_rfl)) (fun _ _ _ h => h) (Or.inl ⟨by rfl, ?_⟩) ?_ ?_
                          rotate_left
                          · intro w'
                            go_simp
                            with_reducible rfl
                          rotate_left
                          · simp only [Act.put, List.setIfInBounds_toArray, List.set_cons_zero, List.set_cons_succ, i64_w, i32_w]
                            rfl
                          refine take_ (i := 1) (N := some 31) (v := ?_) (a' := ?_) #[true, true, false, true, false, false, false, false] rfl rfl (take_ofW HT_.out HW_.out (by kernel_rfl)) (fun _ _ _ h => h) (Or.inl ⟨by rfl, ?_⟩) hHeld ?_ ?_
                          rotate_left
                          · intro w' _
                            go_simp
                            with_reducible rfl
                          rotate_left
                          · simp only [Act.put, List.setIfInBounds_toArray, List.set_cons_zero, List.set_cons_succ, i64_w, i32_w]
                            rfl
                          refine pure_ (i := 2) (N := some 32) (v := ?_) (a' := ?_) #[true, true, true, true, false, false, false, false] rfl rfl (any_of HT_.out (by kernel_rfl)) (fun _ _ _ h => h) (Or.inl ⟨by rfl, ?_⟩) ?_ ?_
                          rotate_left
                          · intro w'
                            go_simp
                            with_reducible rfl
                          rotate_left
                          · simp only [Act.put, List.setIfInBounds_toArray, List.set_cons_zero, List.set_cons_succ, i64_w, i32_w]
                            rfl
                          refine join_ (σ := Nat) 1 #[true, true, true, true, true, true, true, false] (fun s_ => [(34, .int .u64 t128), (8, .pointer (some ⟨s_, 0, none⟩)), (35, .agg #[.int .i64 (wrap64 (bt (a0.extract (a1 : Int).toNat a0.size) 2)), .int .u64 t128, .string (⟨#[]⟩ : ByteArray)])]) (fun s_ w' => (w'.heap[gb127]? = some (.cells #[.int .i64 0, .int .u64 0, .string (⟨#[]⟩ : ByteArray)] 24 (0, 0))) ∧ (w'.heap[s_]? = some (.cells #[.int .i64 0, .int .u64 0, .string (⟨#[]⟩ : ByteArray)] 24 (0, 0))) ∧ (w.heap.size ≤ s_) ∧ (w.heap.size ≤ s_) ∧ (gb127 ≠ s_) ∧ (s_ ≠ gb127) ∧ (Below w.heap.size w w')) ?_ ?_
                          rotate_left
                          · intro hCont
                            refine two_ (i := 4) (j := 6) (Ni := some 34) (Nj := some 8) #[true, true, true, true, true, false, false, false] #[true, true, true, true, false, false, true, false] rfl rfl rfl rfl (two_of HT_.out (by kernel_rfl)) (by decide) (by decide) (fun K hK => ?_) (fun K hK => ?_)
                            · skip
                              refine goes_ Tryd.func48 (by kernel_rfl) rfl #[.string (a0.extract (a1 : Int).toNat a0.size), .int .i64 8] (by rfl) rfl rfl (by (try simp only [List.map_toArray, List.map_cons, List.map_nil]); first | done | rfl | (simp only [List.length_drop, List.length_take]; rfl)) ?_
                              with_reducible refine (redo_word64.calls (a0.extract (a1 : Int).toNat a0.size) 8 t128 _ A13.out).mono ?_
                              rintro e w' ⟨rfl, ⟨nd, rfl⟩⟩
                              refine ⟨_, rfl, ?_⟩
                              refine hK.out _ _ trivial (fun hHeld => ?_)
                              clear hK K
                              refine norm_ (a' := ?_) ?_ ?_
                              rotate_left
                              · show Act.put _ (some 34) _ = _
                                simp only [Act.put, List.setIfInBounds_toArray, List.set_cons_zero, List.set_cons_succ, i64_w, i32_w]
                                rfl
                              refine pure_ (i := 5) (N := some 35) (v := ?_) (a' := ?_) #[true, true, true, true, true, true, false, false] rfl rfl (any_of HT_.out (by kernel_rfl)) (fun _ _ _ h => h) (Or.inl ⟨by rfl, ?_⟩) ?_ ?_
                              rotate_left
                              · intro w'
                                go_simp
                                with_reducible rfl
                              rotate_left
                              · simp only [Act.put, List.setIfInBounds_toArray, List.set_cons_zero, List.set_cons_succ, i64_w, i32_w]
                                rfl
                              refine one_ (i := 6) (N := some 8) #[true, true, true, true, true, true, true, false] rfl rfl (one_of HT_.out (by kernel_rfl)) (by decide) (fun K hK => ?_)
                              refine box_step ?hg (N := 8) ?hd (cs := #[.int .i64 0, .int .u64 0, .string (⟨#[]⟩ : ByteArray)]) (t := 24) ?hr ?_; (case hd => rfl); (case hg => rfl); (case hr => first | (go_simp; done) | (go_simp; rfl))
                              intro gb129 hg w25 hbox hb
                              have n0_ := Aside0.mk (blk_below (g := gb127) (o := .cells #[.int .i64 0, .int .u64 0, .string (⟨#[]⟩ : ByteArray)] 24 (0, 0)) (by (with_reducible repeat (first | refine blk_drewN ?_ _ | refine blk_drew ?_ | refine blk_alloc ?_ _)); exact BK127.out) hb)
                              have n1_ := Aside0.mk (below_step (by repeat (first | (with_reducible first | exact HB.out | apply below_alloc | apply pw_below_drewN | apply below_drew1 | refine below_set ?_ GE127.out) | exact HB.out)) hb)
                              have n2_ := Aside0.mk (hbox)
                              have n3_ := Aside0.mk ((by rw [hg]; exact (below_size (by repeat (first | (with_reducible first | exact HB.out | apply below_alloc | apply pw_below_drewN | apply below_drew1 | refine below_set ?_ GE127.out) | exact HB.out))) : w.heap.size ≤ gb129))
                              have n4_ := Aside0.mk ((by rw [hg]; exact (below_size (by repeat (first | (with_reducible first | exact HB.out | apply below_alloc | apply pw_below_drewN | apply below_drew1 | refine below_set ?_ GE127.out) | exact HB.out))) : w.heap.size ≤ gb129))
                              have n5_ := Aside0.mk ((by rw [hg]; exact Nat.ne_of_lt (blk_lt (g := gb127) (o := .cells #[.int .i64 0, .int .u64 0, .string (⟨#[]⟩ : ByteArray)] 24 (0, 0)) (by (with_reducible repeat (first | refine blk_drewN ?_ _ | refine blk_drew ?_ | refine blk_alloc ?_ _)); exact BK127.out)) : gb127 ≠ gb129))
                              have n6_ := Aside0.mk ((by rw [hg]; exact Nat.ne_of_gt (blk_lt (g := gb127) (o := .cells #[.int .i64 0, .int .u64 0, .string (⟨#[]⟩ : ByteArray)] 24 (0, 0)) (by (with_reducible repeat (first | refine blk_drewN ?_ _ | refine blk_drew ?_ | refine blk_alloc ?_ _)); exact BK127.out)) : gb129 ≠ gb127))
                              clear BK127
                              clear HB
                              have BK127 := n0_
                              have HB := n1_
                              have BK129 := n2_
                              have GW129 := n3_
                              have GE129 := n4_
                              have NB127_129 := n5_
                              have NB129_127 := n6_
                              clear n0_ n1_ n2_ n3_ n4_ n5_ n6_
                              clear hb hbox hg
                              refine hK.out _ _ trivial (fun hHeld => ?_)
                              clear hK K
                              refine norm_ (a' := ?_) ?_ ?_
                              rotate_left
                              · show Act.put _ (some 8) _ = _
                                simp only [Act.put, List.setIfInBounds_toArray, List.set_cons_zero, List.set_cons_succ, i64_w, i32_w]
                                rfl
                              exact norm_ (by simp only [putAll, Act.put, List.setIfInBounds_toArray, List.set_cons_zero, List.set_cons_succ]) (hCont (gb129) _ ⟨(by (with_reducible repeat (first | refine blk_drewN ?_ _ | refine blk_drew ?_ | refine blk_alloc ?_ _)); exact BK127.out), (by (with_reducible repeat (first | refine blk_drewN ?_ _ | refine blk_drew ?_ | refine blk_alloc ?_ _)); exact BK129.out), GW129.out, GE129.out, NB127_129.out, NB129_127.out, (by repeat (first | (with_reducible first | exact HB.out | apply below_alloc | apply pw_below_drewN | apply below_drew1 | refine below_set ?_ GE127.out | refine below_set ?_ GE129.out) | exact HB.out))⟩)
                            · skip
                              refine box_step ?hg (N := 8) ?hd (cs := #[.int .i64 0, .int .u64 0, .string (⟨#[]⟩ : ByteArray)]) (t := 24) ?hr ?_; (case hd => rfl); (case hg => rfl); (case hr => first | (go_simp; done) | (go_simp; rfl))
                              intro gb129 hg w25 hbox hb
                              have n0_ := Aside0.mk (blk_below (g := gb127) (o := .cells #[.int .i64 0, .int .u64 0, .string (⟨#[]⟩ : ByteArray)] 24 (0, 0)) (by (with_reducible repeat (first | refine blk_drewN ?_ _ | refine blk_drew ?_ | refine blk_alloc ?_ _)); exact BK127.out) hb)
                              have n1_ := Aside0.mk (below_step (by repeat (first | (with_reducible first | exact HB.out | apply below_alloc | apply pw_below_drewN | apply below_drew1 | refine below_set ?_ GE127.out) | exact HB.out)) hb)
                              have n2_ := Aside0.mk (hbox)
                              have n3_ := Aside0.mk ((by rw [hg]; exact (below_size (by repeat (first | (with_reducible first | exact HB.out | apply below_alloc | apply pw_below_drewN | apply below_drew1 | refine below_set ?_ GE127.out) | exact HB.out))) : w.heap.size ≤ gb129))
                              have n4_ := Aside0.mk ((by rw [hg]; exact (below_size (by repeat (first | (with_reducible first | exact HB.out | apply below_alloc | apply pw_below_drewN | apply below_drew1 | refine below_set ?_ GE127.out) | exact HB.out))) : w.heap.size ≤ gb129))
                              have n5_ := Aside0.mk ((by rw [hg]; exact Nat.ne_of_lt (blk_lt (g := gb127) (o := .cells #[.int .i64 0, .int .u64 0, .string (⟨#[]⟩ : ByteArray)] 24 (0, 0)) (by (with_reducible repeat (first | refine blk_drewN ?_ _ | refine blk_drew ?_ | refine blk_alloc ?_ _)); exact BK127.out)) : gb127 ≠ gb129))
                              have n6_ := Aside0.mk ((by rw [hg]; exact Nat.ne_of_gt (blk_lt (g := gb127) (o := .cells #[.int .i64 0, .int .u64 0, .string (⟨#[]⟩ : ByteArray)] 24 (0, 0)) (by (with_reducible repeat (first | refine blk_drewN ?_ _ | refine blk_drew ?_ | refine blk_alloc ?_ _)); exact BK127.out)) : gb129 ≠ gb127))
                              clear BK127
                              clear HB
                              have BK127 := n0_
                              have HB := n1_
                              have BK129 := n2_
                              have GW129 := n3_
                              have GE129 := n4_
                              have NB127_129 := n5_
                              have NB129_127 := n6_
                              clear n0_ n1_ n2_ n3_ n4_ n5_ n6_
                              clear hb hbox hg
                              refine hK.out _ _ trivial (fun hHeld => ?_)
                              clear hK K
                              refine norm_ (a' := ?_) ?_ ?_
                              rotate_left
                              · show Act.put _ (some 8) _ = _
                                simp only [Act.put, List.setIfInBounds_toArray, List.set_cons_zero, List.set_cons_succ, i64_w, i32_w]
                                rfl
                              refine one_ (i := 4) (N := some 34) #[true, true, true, true, true, false, true, false] rfl rfl (one_of HT_.out (by kernel_rfl)) (by decide) (fun K hK => ?_)
                              refine goes_ Tryd.func48 (by kernel_rfl) rfl #[.string (a0.extract (a1 : Int).toNat a0.size), .int .i64 8] (by rfl) rfl rfl (by (try simp only [List.map_toArray, List.map_cons, List.map_nil]); first | done | rfl | (simp only [List.length_drop, List.length_take]; rfl)) ?_
                              with_reducible refine (redo_word64.calls (a0.extract (a1 : Int).toNat a0.size) 8 t128 _ A13.out).mono ?_
                              rintro e w' ⟨rfl, ⟨nd, rfl⟩⟩
                              refine ⟨_, rfl, ?_⟩
                              refine hK.out _ _ trivial (fun hHeld => ?_)
                              clear hK K
                              refine norm_ (a' := ?_) ?_ ?_
                              rotate_left
                              · show Act.put _ (some 34) _ = _
                                simp only [Act.put, List.setIfInBounds_toArray, List.set_cons_zero, List.set_cons_succ, i64_w, i32_w]
                                rfl
                              refine pure_ (i := 5) (N := some 35) (v := ?_) (a' := ?_) #[true, true, true, true, true, true, true, false] rfl rfl (any_of HT_.out (by kernel_rfl)) (fun _ _ _ h => h) (Or.inl ⟨by rfl, ?_⟩) ?_ ?_
                              rotate_left
                              · intro w'
                                go_simp
                                with_reducible rfl
                              rotate_left
                              · simp only [Act.put, List.setIfInBounds_toArray, List.set_cons_zero, List.set_cons_succ, i64_w, i32_w]
                                rfl
                              exact norm_ (by simp only [putAll, Act.put, List.setIfInBounds_toArray, List.set_cons_zero, List.set_cons_succ]) (hCont (gb129) _ ⟨(by (with_reducible repeat (first | refine blk_drewN ?_ _ | refine blk_drew ?_ | refine blk_alloc ?_ _)); exact BK127.out), (by (with_reducible repeat (first | refine blk_drewN ?_ _ | refine blk_drew ?_ | refine blk_alloc ?_ _)); exact BK129.out), GW129.out, GE129.out, NB127_129.out, NB129_127.out, (by repeat (first | (with_reducible first | exact HB.out | apply below_alloc | apply pw_below_drewN | apply below_drew1 | refine below_set ?_ GE127.out | refine below_set ?_ GE129.out) | exact HB.out))⟩)
                          rintro gb129 w26 ⟨h0_, h1_, h2_, h3_, h4_, h5_, h6_⟩
                          have n0_ : Aside0 (w26.heap[gb127]? = some (.cells #[.int .i64 0, .int .u64 0, .string (⟨#[]⟩ : ByteArray)] 24 (0, 0))) := ⟨h0_⟩
                          have n1_ : Aside0 (w26.heap[gb129]? = some (.cells #[.int .i64 0, .int .u64 0, .string (⟨#[]⟩ : ByteArray)] 24 (0, 0))) := ⟨h1_⟩
                          have n2_ : Aside0 (w.heap.size ≤ gb129) := ⟨h2_⟩
                          have n3_ : Aside0 (w.heap.size ≤ gb129) := ⟨h3_⟩
                          have n4_ : Aside0 (gb127 ≠ gb129) := ⟨h4_⟩
                          have n5_ : Aside0 (gb129 ≠ gb127) := ⟨h5_⟩
                          have n6_ : Aside0 (Below w.heap.size w w26) := ⟨h6_⟩
                          clear BK127
                          clear HB
                          clear h0_ h1_ h2_ h3_ h4_ h5_ h6_
                          have BK127 := n0_
                          have BK129 := n1_
                          have GW129 := n2_
                          have GE129 := n3_
                          have NB127_129 := n4_
                          have NB129_127 := n5_
                          have HB := n6_
                          clear n0_ n1_ n2_ n3_ n4_ n5_ n6_
                          have hHeld := trivial
                          refine norm_ (a' := ?_) ?_ ?_
                          rotate_left
                          · simp only [putAll, Act.put, List.setIfInBounds_toArray, List.set_cons_zero, List.set_cons_succ]
                            rfl
                          refine one_ (i := 7) (N := none) #[true, true, true, true, true, true, true, true] rfl rfl (one_of HT_.out (by kernel_rfl)) (by decide) (fun K hK => ?_)
                          have hs27 : w26.cell? ⟨gb129, 0, none⟩ = some (.int .i64 0) := (blk_cell BK129.out 0).trans rfl
                          have hfs27 := blk_frozen BK129.out 0
                          have hns27_0 := NB127_129.out
                          have hms27_0 := NB129_127.out
                          have hs28 : w26.cell? ⟨gb129, 1, none⟩ = some (.int .u64 0) := (blk_cell BK129.out 1).trans rfl
                          have hfs28 := blk_frozen BK129.out 1
                          have hns28_0 := NB127_129.out
                          have hms28_0 := NB129_127.out
                          have hs29 : w26.cell? ⟨gb129, 2, none⟩ = some (.string (⟨#[]⟩ : ByteArray)) := (blk_cell BK129.out 2).trans rfl
                          have hfs29 := blk_frozen BK129.out 2
                          have hns29_0 := NB127_129.out
                          have hms29_0 := NB129_127.out
                          refine skip_ (w1 := ?_) (by rfl) rfl ?_ ?_
                          rotate_left
                          · go_simp
                            rfl
                          refine hK.out _ _ trivial (fun hHeld => ?_)
                          clear hK K
                          refine done_ (done_of HT_.out (by kernel_rfl)) ?_
                          try go_wp2_with (first | ((with_reducible refine gate_callee (f := 49) rfl ?_); refine goesL_ (some 37) rfl rfl Tryd.func49 (by kernel_rfl) rfl #[.string (a0.extract (a1 : Int).toNat a0.size), .int .i64 4] rfl (by (try simp only [List.map_toArray, List.map_cons, List.map_nil]); first | done | rfl | (simp only [List.length_drop, List.length_take]; rfl)) ?_; (with_reducible refine (redo_word32.calls (a0.extract (a1 : Int).toNat a0.size) 4 t130 _ A14.out).mono ?_); rintro e w' ⟨rfl, ⟨nd, rfl⟩⟩; refine ⟨_, rfl, ?_⟩))
                          have n0_ : Aside0 ((((w26.setCell ⟨gb129, 0, none⟩ (.int .i64 (wrap64 (bt (a0.extract (a1 : Int).toNat a0.size) 2)))).setCell ⟨gb129, 1, none⟩ (.int .u64 t128)).setCell ⟨gb129, 2, none⟩ (.string (⟨#[]⟩ : ByteArray))).heap[gb127]? = some (.cells #[.int .i64 0, .int .u64 0, .string (⟨#[]⟩ : ByteArray)] 24 (0, 0))) := ⟨by (with_reducible repeat (first | refine blk_drewN ?_ _ | refine blk_drew ?_ | refine blk_alloc ?_ _)); refine blk_far ?_ NB127_129.out _; (with_reducible repeat (first | refine blk_drewN ?_ _ | refine blk_drew ?_ | refine blk_alloc ?_ _)); refine blk_far ?_ NB127_129.out _; (with_reducible repeat (first | refine blk_drewN ?_ _ | refine blk_drew ?_ | refine blk_alloc ?_ _)); refine blk_far ?_ NB127_129.out _; (with_reducible repeat (first | refine blk_drewN ?_ _ | refine blk_drew ?_ | refine blk_alloc ?_ _)); exact BK127.out⟩
                          have n1_ : Aside0 ((((w26.setCell ⟨gb129, 0, none⟩ (.int .i64 (wrap64 (bt (a0.extract (a1 : Int).toNat a0.size) 2)))).setCell ⟨gb129, 1, none⟩ (.int .u64 t128)).setCell ⟨gb129, 2, none⟩ (.string (⟨#[]⟩ : ByteArray))).heap[gb129]? = some (.cells #[.int .i64 (wrap64 (bt (a0.extract (a1 : Int).toNat a0.size) 2)), .int .u64 t128, .string (⟨#[]⟩ : ByteArray)] 24 (0, 0))) := ⟨by (with_reducible repeat (first | refine blk_drewN ?_ _ | refine blk_drew ?_ | refine blk_alloc ?_ _)); refine blk_put (cs := #[.int .i64 (wrap64 (bt (a0.extract (a1 : Int).toNat a0.size) 2)), .int .u64 t128, .string (⟨#[]⟩ : ByteArray)]) ?_ 2 _ rfl; (with_reducible repeat (first | refine blk_drewN ?_ _ | refine blk_drew ?_ | refine blk_alloc ?_ _)); refine blk_put (cs := #[.int .i64 (wrap64 (bt (a0.extract (a1 : Int).toNat a0.size) 2)), .int .u64 0, .string (⟨#[]⟩ : ByteArray)]) ?_ 1 _ rfl; (with_reducible repeat (first | refine blk_drewN ?_ _ | refine blk_drew ?_ | refine blk_alloc ?_ _)); refine blk_put (cs := #[.int .i64 0, .int .u64 0, .string (⟨#[]⟩ : ByteArray)]) ?_ 0 _ rfl; (with_reducible repeat (first | refine blk_drewN ?_ _ | refine blk_drew ?_ | refine blk_alloc ?_ _)); exact BK129.out⟩
                          have n2_ : Aside0 (Below w.heap.size w (((w26.setCell ⟨gb129, 0, none⟩ (.int .i64 (wrap64 (bt (a0.extract (a1 : Int).toNat a0.size) 2)))).setCell ⟨gb129, 1, none⟩ (.int .u64 t128)).setCell ⟨gb129, 2, none⟩ (.string (⟨#[]⟩ : ByteArray)))) := ⟨by repeat (first | (with_reducible first | exact HB.out | apply below_alloc | apply pw_below_drewN | apply below_drew1 | refine below_set ?_ GE127.out | refine below_set ?_ GE129.out) | exact HB.out)⟩
                          (try clear BK127)
                          (try clear BK129)
                          (try clear HB)
                          generalize (((w26.setCell ⟨gb129, 0, none⟩ (.int .i64 (wrap64 (bt (a0.extract (a1 : Int).toNat a0.size) 2)))).setCell ⟨gb129, 1, none⟩ (.int .u64 t128)).setCell ⟨gb129, 2, none⟩ (.string (⟨#[]⟩ : ByteArray))) = w30 at n0_ n1_ n2_ ⊢
                          have BK127 := n0_
                          have BK129 := n1_
                          have HB := n2_
                          clear n0_ n1_ n2_
                          (try (rw [drewN_self w30]; generalize hq_ : World.drewN w30 _ = w30; have n0_ : Aside0 (w30.heap[gb127]? = some (.cells #[.int .i64 0, .int .u64 0, .string (⟨#[]⟩ : ByteArray)] 24 (0, 0))) := ⟨by rw [← hq_]; exact (by (with_reducible repeat (first | refine blk_drewN ?_ _ | refine blk_drew ?_ | refine blk_alloc ?_ _)); exact BK127.out)⟩; have n1_ : Aside0 (w30.heap[gb129]? = some (.cells #[.int .i64 (wrap64 (bt (a0.extract (a1 : Int).toNat a0.size) 2)), .int .u64 t128, .string (⟨#[]⟩ : ByteArray)] 24 (0, 0))) := ⟨by rw [← hq_]; exact (by (with_reducible repeat (first | refine blk_drewN ?_ _ | refine blk_drew ?_ | refine blk_alloc ?_ _)); exact BK129.out)⟩; have n2_ : Aside0 (Below w.heap.size w w30) := ⟨by rw [← hq_]; exact (by repeat (first | (with_reducible first | exact HB.out | apply below_alloc | apply pw_below_drewN | apply below_drew1 | refine below_set ?_ GE127.out | refine below_set ?_ GE129.out) | exact HB.out))⟩; clear BK127 BK129 HB hq_; have BK127 := n0_; have BK129 := n1_; have HB := n2_; clear n0_ n1_ n2_))
                          have n0_ := Aside0.mk (blk_drew BK127.out)
                          have n1_ := Aside0.mk (blk_drew BK129.out)
                          have n2_ := Aside0.mk (below_drew1 HB.out)
                          clear BK127
                          clear BK129
                          clear HB
                          have BK127 := n0_
                          have BK129 := n1_
                          have HB := n2_
                          clear n0_ n1_ n2_
                          refine start_ (n := 8) (S := fun w' => True) (ds := []) #[false, false, false, false, false, false, false, false] (by kernel_rfl) rfl rfl trivial (fun hHeld => ?_); refine with_tabW redo_DecodeFrame.tab8 redo_DecodeFrame.bits8 (fun HT_ HW_ => ?_)
                          generalize w30.drew = w31 at BK127 BK129 HB hHeld ⊢
                          refine pure_ (i := 0) (N := some 46) (v := ?_) (a' := ?_) #[true, false, false, false, false, false, false, false] rfl rfl (any_of HT_.out (by kernel_rfl)) (fun _ _ _ h => h) (Or.inl ⟨by rfl, ?_⟩) ?_ ?_
                          rotate_left
                          · intro w'
                            go_simp
                            with_reducible rfl
                          rotate_left
                          · simp only [Act.put, List.setIfInBounds_toArray, List.set_cons_zero, List.set_cons_succ, i64_w, i32_w]
                            rfl
                          refine pure_ (i := 2) (N := some 48) (v := ?_) (a' := ?_) #[true, false, true, false, false, false, false, false] rfl rfl (any_of HT_.out (by kernel_rfl)) (fun _ _ _ h => h) (Or.inl ⟨by rfl, ?_⟩) ?_ ?_
                          rotate_left
                          · intro w'
                            go_simp
                            with_reducible rfl
                          rotate_left
                          · simp only [Act.put, List.setIfInBounds_toArray, List.set_cons_zero, List.set_cons_succ, i64_w, i32_w]
                            rfl
                          refine pure_ (i := 3) (N := some 49) (v := ?_) (a' := ?_) #[true, false, true, true, false, false, false, false] rfl rfl (any_of HT_.out (by kernel_rfl)) (fun _ _ _ h => h) (Or.inl ⟨by rfl, ?_⟩) ?_ ?_
                          rotate_left
                          · intro w'
                            go_simp
                            with_reducible rfl
                          rotate_left
                          · simp only [Act.put, List.setIfInBounds_toArray, List.set_cons_zero, List.set_cons_succ, i64_w, i32_w]
                            rfl
                          refine join_ (σ := Value) 3 #[true, true, true, true, true, false, false, false] (fun s_ => [(47, .int .u32 t131), (50, s_)]) (fun s_ w' => (Kd.R Kd.string 9 w' w.heap.size (fun _ => True) s_ y132) ∧ (w'.heap[gb127]? = some (.cells #[.int .i64 0, .int .u64 0, .string (⟨#[]⟩ : ByteArray)] 24 (0, 0))) ∧ (w'.heap[gb129]? = some (.cells #[.int .i64 (wrap64 (bt (a0.extract (a1 : Int).toNat a0.size) 2)), .int .u64 t128, .string (⟨#[]⟩ : ByteArray)] 24 (0, 0))) ∧ (Below w.heap.size w w')) ?_ ?_
                          rotate_left
                          · intro hCont
                            refine two_ (i := 1) (j := 4) (Ni := some 47) (Nj := some 50) #[true, true, true, true, false, false, false, false] #[true, false, true, true, true, false, false, false] rfl rfl rfl rfl (two_of HT_.out (by kernel_rfl)) (by decide) (by decide) (fun K hK => ?_) (fun K hK => ?_)
                            · skip
                              refine goes_ Tryd.func49 (by kernel_rfl) rfl #[.string (a0.extract (a1 : Int).toNat a0.size), .int .i64 20] (by rfl) rfl rfl (by (try simp only [List.map_toArray, List.map_cons, List.map_nil]); first | done | rfl | (simp only [List.length_drop, List.length_take]; rfl)) ?_
                              with_reducible refine (redo_word32.calls (a0.extract (a1 : Int).toNat a0.size) 20 t131 _ A18.out).mono ?_
                              rintro e w' ⟨rfl, ⟨nd, rfl⟩⟩
                              refine ⟨_, rfl, ?_⟩
                              refine hK.out _ _ trivial (fun hHeld => ?_)
                              clear hK K
                              refine norm_ (a' := ?_) ?_ ?_
                              rotate_left
                              · show Act.put _ (some 47) _ = _
                                simp only [Act.put, List.setIfInBounds_toArray, List.set_cons_zero, List.set_cons_succ, i64_w, i32_w]
                                rfl
                              refine one_ (i := 4) (N := some 50) #[true, true, true, true, true, false, false, false] rfl rfl (one_of HT_.out (by kernel_rfl)) (by decide) (fun K hK => ?_)
                              refine Kd.R_lit_step Kd.string _ 9 ?hg (N := 50) ?hd (xs := ([(a0.extract (a1 : Int).toNat a0.size).extract 0 20] : List ByteArray)) (inner := [.string ((a0.extract (a1 : Int).toNat a0.size).extract 0 20)]) (ok := fun _ => True) (okp := fun _ => True) ?hr ?hp (fun _ hk => hk) trivial (Below.refl _ _) (Nat.le_refl _) (by simp) ?_; (case hd => rfl); (case hg => rfl); (case hr => first | (go_simp; done) | (go_simp; rfl)); (case hp => exact (Reps.one (show Kd.M Kd.string _ _ _ ((a0.extract (a1 : Int).toNat a0.size).extract 0 20) [.string ((a0.extract (a1 : Int).toNat a0.size).extract 0 20)] from rfl) (Reps.none _ _)))
                              intro v133 w32 ho33 hb hg_ hnew_
                              clear hg_ hnew_
                              (first | rw [← Ny132.out] at ho33 | (simp only [Int.reduceToNat] at ho33; rw [← Ny132.out] at ho33))
                              have n0_ := Aside0.mk (Kd.R_lower ho33 (below_size (by repeat (first | (with_reducible first | exact HB.out | apply below_alloc | apply pw_below_drewN | apply below_drew1 | refine below_set ?_ GE127.out | refine below_set ?_ GE129.out) | exact HB.out))))
                              have n1_ := Aside0.mk (blk_below (g := gb127) (o := .cells #[.int .i64 0, .int .u64 0, .string (⟨#[]⟩ : ByteArray)] 24 (0, 0)) (by (with_reducible repeat (first | refine blk_drewN ?_ _ | refine blk_drew ?_ | refine blk_alloc ?_ _)); exact BK127.out) hb)
                              have n2_ := Aside0.mk (blk_below (g := gb129) (o := .cells #[.int .i64 (wrap64 (bt (a0.extract (a1 : Int).toNat a0.size) 2)), .int .u64 t128, .string (⟨#[]⟩ : ByteArray)] 24 (0, 0)) (by (with_reducible repeat (first | refine blk_drewN ?_ _ | refine blk_drew ?_ | refine blk_alloc ?_ _)); exact BK129.out) hb)
                              have n3_ := Aside0.mk (below_step (by repeat (first | (with_reducible first | exact HB.out | apply below_alloc | apply pw_below_drewN | apply below_drew1 | refine below_set ?_ GE127.out | refine below_set ?_ GE129.out) | exact HB.out)) hb)
                              clear BK127
                              clear BK129
                              clear HB
                              have HO134 := n0_
                              have BK127 := n1_
                              have BK129 := n2_
                              have HB := n3_
                              clear n0_ n1_ n2_ n3_
                              clear hb ho33
                              refine hK.out _ _ trivial (fun hHeld => ?_)
                              clear hK K
                              refine norm_ (a' := ?_) ?_ ?_
                              rotate_left
                              · show Act.put _ (some 50) _ = _
                                simp only [Act.put, List.setIfInBounds_toArray, List.set_cons_zero, List.set_cons_succ, i64_w, i32_w]
                                rfl
                              exact norm_ (by simp only [putAll, Act.put, List.setIfInBounds_toArray, List.set_cons_zero, List.set_cons_succ]) (hCont (v133) _ ⟨(by (with_reducible repeat (first | apply Kd.R_alloc | apply Kd.R_drewN | apply Kd.R_drew)); exact HO134.out), (by (with_reducible repeat (first | refine blk_drewN ?_ _ | refine blk_drew ?_ | refine blk_alloc ?_ _)); exact BK127.out), (by (with_reducible repeat (first | refine blk_drewN ?_ _ | refine blk_drew ?_ | refine blk_alloc ?_ _)); exact BK129.out), (by repeat (first | (with_reducible first | exact HB.out | apply below_alloc | apply pw_below_drewN | apply below_drew1 | refine below_set ?_ GE127.out | refine below_set ?_ GE129.out) | exact HB.out))⟩)
                            · skip
                              refine Kd.R_lit_step Kd.string _ 9 ?hg (N := 50) ?hd (xs := ([(a0.extract (a1 : Int).toNat a0.size).extract 0 20] : List ByteArray)) (inner := [.string ((a0.extract (a1 : Int).toNat a0.size).extract 0 20)]) (ok := fun _ => True) (okp := fun _ => True) ?hr ?hp (fun _ hk => hk) trivial (Below.refl _ _) (Nat.le_refl _) (by simp) ?_; (case hd => rfl); (case hg => rfl); (case hr => first | (go_simp; done) | (go_simp; rfl)); (case hp => exact (Reps.one (show Kd.M Kd.string _ _ _ ((a0.extract (a1 : Int).toNat a0.size).extract 0 20) [.string ((a0.extract (a1 : Int).toNat a0.size).extract 0 20)] from rfl) (Reps.none _ _)))
                              intro v133 w32 ho33 hb hg_ hnew_
                              clear hg_ hnew_
                              (first | rw [← Ny132.out] at ho33 | (simp only [Int.reduceToNat] at ho33; rw [← Ny132.out] at ho33))
                              have n0_ := Aside0.mk (Kd.R_lower ho33 (below_size (by repeat (first | (with_reducible first | exact HB.out | apply below_alloc | apply pw_below_drewN | apply below_drew1 | refine below_set ?_ GE127.out | refine below_set ?_ GE129.out) | exact HB.out))))
                              have n1_ := Aside0.mk (blk_below (g := gb127) (o := .cells #[.int .i64 0, .int .u64 0, .string (⟨#[]⟩ : ByteArray)] 24 (0, 0)) (by (with_reducible repeat (first | refine blk_drewN ?_ _ | refine blk_drew ?_ | refine blk_alloc ?_ _)); exact BK127.out) hb)
                              have n2_ := Aside0.mk (blk_below (g := gb129) (o := .cells #[.int .i64 (wrap64 (bt (a0.extract (a1 : Int).toNat a0.size) 2)), .int .u64 t128, .string (⟨#[]⟩ : ByteArray)] 24 (0, 0)) (by (with_reducible repeat (first | refine blk_drewN ?_ _ | refine blk_drew ?_ | refine blk_alloc ?_ _)); exact BK129.out) hb)
                              have n3_ := Aside0.mk (below_step (by repeat (first | (with_reducible first | exact HB.out | apply below_alloc | apply pw_below_drewN | apply below_drew1 | refine below_set ?_ GE127.out | refine below_set ?_ GE129.out) | exact HB.out)) hb)
                              clear BK127
                              clear BK129
                              clear HB
                              have HO134 := n0_
                              have BK127 := n1_
                              have BK129 := n2_
                              have HB := n3_
                              clear n0_ n1_ n2_ n3_
                              clear hb ho33
                              refine hK.out _ _ trivial (fun hHeld => ?_)
                              clear hK K
                              refine norm_ (a' := ?_) ?_ ?_
                              rotate_left
                              · show Act.put _ (some 50) _ = _
                                simp only [Act.put, List.setIfInBounds_toArray, List.set_cons_zero, List.set_cons_succ, i64_w, i32_w]
                                rfl
                              refine one_ (i := 1) (N := some 47) #[true, true, true, true, true, false, false, false] rfl rfl (one_of HT_.out (by kernel_rfl)) (by decide) (fun K hK => ?_)
                              refine goes_ Tryd.func49 (by kernel_rfl) rfl #[.string (a0.extract (a1 : Int).toNat a0.size), .int .i64 20] (by rfl) rfl rfl (by (try simp only [List.map_toArray, List.map_cons, List.map_nil]); first | done | rfl | (simp only [List.length_drop, List.length_take]; rfl)) ?_
                              with_reducible refine (redo_word32.calls (a0.extract (a1 : Int).toNat a0.size) 20 t131 _ A18.out).mono ?_
                              rintro e w' ⟨rfl, ⟨nd, rfl⟩⟩
                              refine ⟨_, rfl, ?_⟩
                              refine hK.out _ _ trivial (fun hHeld => ?_)
                              clear hK K
                              refine norm_ (a' := ?_) ?_ ?_
                              rotate_left
                              · show Act.put _ (some 47) _ = _
                                simp only [Act.put, List.setIfInBounds_toArray, List.set_cons_zero, List.set_cons_succ, i64_w, i32_w]
                                rfl
                              exact norm_ (by simp only [putAll, Act.put, List.setIfInBounds_toArray, List.set_cons_zero, List.set_cons_succ]) (hCont (v133) _ ⟨(by (with_reducible repeat (first | apply Kd.R_alloc | apply Kd.R_drewN | apply Kd.R_drew)); exact HO134.out), (by (with_reducible repeat (first | refine blk_drewN ?_ _ | refine blk_drew ?_ | refine blk_alloc ?_ _)); exact BK127.out), (by (with_reducible repeat (first | refine blk_drewN ?_ _ | refine blk_drew ?_ | refine blk_alloc ?_ _)); exact BK129.out), (by repeat (first | (with_reducible first | exact HB.out | apply below_alloc | apply pw_below_drewN | apply below_drew1 | refine below_set ?_ GE127.out | refine below_set ?_ GE129.out) | exact HB.out))⟩)
                          rintro v133 w34 ⟨h0_, h1_, h2_, h3_⟩
                          have n0_ : Aside0 (Kd.R Kd.string 9 w34 w.heap.size (fun _ => True) v133 y132) := ⟨h0_⟩
                          have n1_ : Aside0 (w34.heap[gb127]? = some (.cells #[.int .i64 0, .int .u64 0, .string (⟨#[]⟩ : ByteArray)] 24 (0, 0))) := ⟨h1_⟩
                          have n2_ : Aside0 (w34.heap[gb129]? = some (.cells #[.int .i64 (wrap64 (bt (a0.extract (a1 : Int).toNat a0.size) 2)), .int .u64 t128, .string (⟨#[]⟩ : ByteArray)] 24 (0, 0))) := ⟨h2_⟩
                          have n3_ : Aside0 (Below w.heap.size w w34) := ⟨h3_⟩
                          clear BK127
                          clear BK129
                          clear HB
                          clear h0_ h1_ h2_ h3_
                          have HO134 := n0_
                          have BK127 := n1_
                          have BK129 := n2_
                          have HB := n3_
                          clear n0_ n1_ n2_ n3_
                          have hHeld := trivial
                          obtain ⟨Ao35, co35, eo35⟩ := Kd.R_slice HO134.out
                          (first | subst eo35 | (injection eo35 with f1_ f2_ f3_; have f4_ := f1_.symm; have f5_ := f3_.symm; clear f1_ f2_ f3_; subst f4_; subst f5_))
                          refine norm_ (a' := ?_) ?_ ?_
                          rotate_left
                          · simp only [putAll, Act.put, List.setIfInBounds_toArray, List.set_cons_zero, List.set_cons_succ]
                            rfl
                          refine one_ (i := 5) (N := some 51) #[true, true, true, true, true, true, false, false] rfl rfl (one_of HT_.out (by kernel_rfl)) (by decide) (fun K hK => ?_)
                          refine goes_ Tryd.func42 (by kernel_rfl) rfl #[.slice Ao35 y132.length co35] (by rfl) rfl rfl (by (try simp only [List.map_toArray, List.map_cons, List.map_nil]); first | done | rfl | (simp only [List.length_drop, List.length_take]; rfl)) ?_
                          with_reducible refine (bits_Checksum.calls kj2 _ _ y132 t135 _ ?side1 ?side2 A21.out (by first | exact hT | exact hT.drewN _ | exact Tab.below hT (by repeat (first | (with_reducible first | exact HB.out | apply below_alloc | apply pw_below_drewN | apply below_drew1) | exact HB.out)))).mono ?_
                          (case side1 => repeat (first | exact (Kd.R_reads' HO134.out).2.2 | (with_reducible refine Kd.C_alloc ?_ _) | (with_reducible refine Kd.C_drewN ?_ _) | (with_reducible refine Kd.C_drew ?_)))
                          (case side2 => exact (Kd.R_reads' HO134.out).2.1)
                          rintro e w' ⟨rfl, ⟨nd, rfl⟩⟩
                          refine ⟨_, rfl, ?_⟩
                          refine hK.out _ _ trivial (fun hHeld => ?_)
                          clear hK K
                          refine norm_ (a' := ?_) ?_ ?_
                          rotate_left
                          · show Act.put _ (some 51) _ = _
                            simp only [Act.put, List.setIfInBounds_toArray, List.set_cons_zero, List.set_cons_succ, i64_w, i32_w]
                            rfl
                          refine pure_ (i := 6) (N := some 52) (v := ?_) (a' := ?_) #[true, true, true, true, true, true, true, false] rfl rfl (any_of HT_.out (by kernel_rfl)) (fun _ _ _ h => h) (Or.inl ⟨by rfl, ?_⟩) ?_ ?_
                          rotate_left
                          · intro w'
                            go_simp
                            with_reducible rfl
                          rotate_left
                          · simp only [Act.put, List.setIfInBounds_toArray, List.set_cons_zero, List.set_cons_succ, i64_w, i32_w]
                            rfl
                          refine pure_ (i := 7) (N := some 45) (v := ?_) (a' := ?_) #[true, true, true, true, true, true, true, true] rfl rfl (any_of HT_.out (by kernel_rfl)) (fun _ _ _ h => h) (Or.inl ⟨by rfl, ?_⟩) ?_ ?_
                          rotate_left
                          · intro w'
                            go_simp
                            with_reducible rfl
                          rotate_left
                          · simp only [Act.put, List.setIfInBounds_toArray, List.set_cons_zero, List.set_cons_succ, i64_w, i32_w]
                            rfl
                          refine done_ (done_of HT_.out (by kernel_rfl)) ?_
                          go_upto_region 10 with (fail)
                          go_cut [55] (fun v55 wc => ∃ (kq : Nat) (x55_22 : Bool), v55 = .bool x55_22 ∧ Aside0 (redo_DecodeFrame.j1 kq a1 (a0.extract (a1 : Int).toNat a0.size) (wrap64 (t130)) x55_22 (wrap64 (bt (a0.extract (a1 : Int).toNat a0.size) 2)) t128 (⟨#[]⟩ : ByteArray) = some (r1, r2, r3, r4, r5)) ∧ Aside0 (kq ≤ kj2) ∧ Aside0 (wc.heap[gb127]? = some (.cells #[.int .i64 0, .int .u64 0, .string (⟨#[]⟩ : ByteArray)] 24 (0, 0))) ∧ Aside0 (wc.heap[gb129]? = some (.cells #[.int .i64 (wrap64 (bt (a0.extract (a1 : Int).toNat a0.size) 2)), .int .u64 t128, .string (⟨#[]⟩ : ByteArray)] 24 (0, 0))) ∧ Aside0 (Below w.heap.size w wc))
                          case first =>
                            have H := HC23.out
                            clear HC23
                            by_cases c36 : 3 < ((a0.extract (a1 : Int).toNat a0.size).size : Int)
                            · rw [if_pos c36] at H
                              have c36b0 : decide (3 < ((a0.extract (a1 : Int).toNat a0.size).size : Int)) = true := decide_eq_true c36
                              have c36b0n4 : decide (3 < ((a0.size - (a1 : Int).toNat : Nat) : Int)) = true := by have h := c36b0; rw [ByteArray.size_extract, Nat.min_self] at h; exact h -- fixfr
                              have c36b0n5 : (3 < ((a0.size - (a1 : Int).toNat : Nat) : Int)) = True := eq_true (of_decide_eq_true c36b0n4) -- fixfr
                              have c36b1 : decide (3 < (a0.extract (a1 : Int).toNat a0.size).size) = true := decide_eq_true (by omega)
                              clear c36
                              (first | rw [c36b0] | (simp only [i64_w, i32_w]; rw [c36b0]) | skip)
                              by_cases c38 : (bt (a0.extract (a1 : Int).toNat a0.size) 3) = 0
                              · rw [if_pos c38] at H
                                have c38b0 : ((bt (a0.extract (a1 : Int).toNat a0.size) 3) == 0) = true := beq_iff_eq.mpr c38
                                have c38b1 : ((bt (a0.extract (a1 : Int).toNat a0.size) 3) != 0) = false := bne_eq_false_iff_eq.mpr c38
                                clear c38
                                replace H := Option.bind_eq_some_iff.mp H
                                obtain ⟨t136, A390, H⟩ := H
                                replace H : (redo_DecodeFrame.j1 kj2 a1 (a0.extract (a1 : Int).toNat a0.size) (wrap64 (t130)) (!t136) (wrap64 (bt (a0.extract (a1 : Int).toNat a0.size) 2)) t128 (⟨#[]⟩ : ByteArray)) = some (r1, r2, r3, r4, r5) := H
                                have A39 := Aside0.mk A390
                                clear A390
                                have H' := Aside0.mk H
                                clear H
                                have p37 : 0 ≤ (3 : Int) := (by omega)
                                have q37 : 3 < (a0.extract (a1 : Int).toNat a0.size).size := (by have : (3 : Int) < ((a0.extract (a1 : Int).toNat a0.size).size : Int) := of_decide_eq_true (by first | (with_reducible assumption) | assumption); omega)
                                have hx37 : ∀ h : 3 < (a0.extract (a1 : Int).toNat a0.size).size, (((a0.extract (a1 : Int).toNat a0.size)[3]'h).toNat : Int) = bt (a0.extract (a1 : Int).toNat a0.size) 3 := bt_at (a0.extract (a1 : Int).toNat a0.size) 3
                                clear p37
                                have qi37 : (3 < ((a0.extract (a1 : Int).toNat a0.size).size : Int)) = True := eq_true (of_decide_eq_true (by first | (with_reducible assumption) | assumption))
                                have qi37n4 : decide (3 < ((a0.size - (a1 : Int).toNat : Nat) : Int)) = true := by have h := decide_eq_true (of_eq_true qi37); rw [ByteArray.size_extract, Nat.min_self] at h; exact h -- fixfr
                                have qi37n5 : (3 < ((a0.size - (a1 : Int).toNat : Nat) : Int)) = True := eq_true (of_decide_eq_true qi37n4) -- fixfr
                                replace q37 := eq_true q37
                                have hnb40 := NB129_127.out
                                have hnc40 := NB127_129.out
                                have hcz41_0 : w34.cell? ⟨gb129, 0, none⟩ = some (.int .i64 (wrap64 (bt (a0.extract (a1 : Int).toNat a0.size) 2))) := (blk_cell BK129.out 0).trans rfl
                                have hcz41_1 : w34.cell? ⟨gb129, 1, none⟩ = some (.int .u64 t128) := (blk_cell BK129.out 1).trans rfl
                                have hcz41_2 : w34.cell? ⟨gb129, 2, none⟩ = some (.string (⟨#[]⟩ : ByteArray)) := (blk_cell BK129.out 2).trans rfl
                                have hfz41_0 := blk_frozen BK129.out 0
                                have hfz41_1 := blk_frozen BK129.out 1
                                have hfz41_2 := blk_frozen BK129.out 2
                                go_wp2_with (first | (go_at_call 37; (with_reducible refine (redo_fits.calls kj2 (wrap64 (bt (a0.extract (a1 : Int).toNat a0.size) 2)) t128 (wrap64 (t130)) t136 _ A39.out).mono ?_); rintro e w' ⟨rfl, ⟨nd, rfl⟩⟩))
                                go_meet
                                case rel => exact ⟨_, (!t136), (by first | rfl | (simp; done) | (simp [*]; done)), H', ⟨by have := HJ2.out; first | omega | exact Nat.le_refl _⟩, ⟨by (with_reducible repeat (first | refine blk_drewN ?_ _ | refine blk_drew ?_ | refine blk_alloc ?_ _)); exact BK127.out⟩, ⟨by (with_reducible repeat (first | refine blk_drewN ?_ _ | refine blk_drew ?_ | refine blk_alloc ?_ _)); exact BK129.out⟩, ⟨by repeat (first | (with_reducible first | exact HB.out | apply below_alloc | apply pw_below_drewN | apply below_drew1 | refine below_set ?_ GE127.out | refine below_set ?_ GE129.out) | exact HB.out)⟩⟩
                              · rw [if_neg c38] at H
                                have c38b0 : ((bt (a0.extract (a1 : Int).toNat a0.size) 3) == 0) = false := beq_eq_false_iff_ne.mpr c38
                                have c38b1 : ((bt (a0.extract (a1 : Int).toNat a0.size) 3) != 0) = true := bne_iff_ne.mpr c38
                                have H' := Aside0.mk H
                                clear H
                                have p37 : 0 ≤ (3 : Int) := (by omega)
                                have q37 : 3 < (a0.extract (a1 : Int).toNat a0.size).size := (by have : (3 : Int) < ((a0.extract (a1 : Int).toNat a0.size).size : Int) := of_decide_eq_true (by first | (with_reducible assumption) | assumption); omega)
                                have hx37 : ∀ h : 3 < (a0.extract (a1 : Int).toNat a0.size).size, (((a0.extract (a1 : Int).toNat a0.size)[3]'h).toNat : Int) = bt (a0.extract (a1 : Int).toNat a0.size) 3 := bt_at (a0.extract (a1 : Int).toNat a0.size) 3
                                clear p37
                                have qi37 : (3 < ((a0.extract (a1 : Int).toNat a0.size).size : Int)) = True := eq_true (of_decide_eq_true (by first | (with_reducible assumption) | assumption))
                                have qi37n4 : decide (3 < ((a0.size - (a1 : Int).toNat : Nat) : Int)) = true := by have h := decide_eq_true (of_eq_true qi37); rw [ByteArray.size_extract, Nat.min_self] at h; exact h -- fixfr
                                have qi37n5 : (3 < ((a0.size - (a1 : Int).toNat : Nat) : Int)) = True := eq_true (of_decide_eq_true qi37n4) -- fixfr
                                replace q37 := eq_true q37
                                go_wp2
                                go_meet
                                case rel => exact ⟨_, (true), (by first | rfl | (simp; done) | (simp [*]; done)), H', ⟨by have := HJ2.out; first | omega | exact Nat.le_refl _⟩, ⟨by (with_reducible repeat (first | refine blk_drewN ?_ _ | refine blk_drew ?_ | refine blk_alloc ?_ _)); exact BK127.out⟩, ⟨by (with_reducible repeat (first | refine blk_drewN ?_ _ | refine blk_drew ?_ | refine blk_alloc ?_ _)); exact BK129.out⟩, ⟨by repeat (first | (with_reducible first | exact HB.out | apply below_alloc | apply pw_below_drewN | apply below_drew1 | refine below_set ?_ GE127.out | refine below_set ?_ GE129.out) | exact HB.out)⟩⟩
                            · rw [if_neg c36] at H
                              exact absurd H (by simp)
                          case rest =>
                            clear HC23
                            try clear c1
                            try clear p1
                            try clear q1
                            try clear hx1
                            try clear qi1
                            try clear c2
                            try clear p2
                            try clear c3
                            try clear p3
                            try clear q3
                            try clear hx3
                            try clear qi3
                            try clear c4
                            try clear c5
                            try clear c5b0
                            try clear c6
                            try clear c6b0
                            try clear p6
                            try clear c7
                            try clear c9
                            try clear c9b0
                            try clear c9b1
                            try clear c10
                            try clear c10b0
                            try clear c10b1
                            try clear c11
                            try clear c11b0
                            try clear c11b1
                            try clear c12
                            try clear p12
                            try clear q12
                            try clear hx12
                            try clear qi12
                            try clear c15
                            try clear c15b0
                            try clear c15b1
                            try clear c16
                            try clear c16b0
                            try clear c16b1
                            try clear c17
                            try clear c17b0
                            try clear c17b1
                            try clear c19
                            try clear c19b0
                            try clear c19b1
                            try clear c20
                            try clear c20b0
                            try clear c20b1
                            try clear c22
                            try clear c22b0
                            try clear c22b1
                            try clear c36
                            try clear c36b0
                            try clear c36b1
                            try clear p37
                            try clear q37
                            try clear hx37
                            try clear qi37
                            try clear c38
                            try clear c38b0
                            try clear c38b1
                            try clear c40
                            try clear hcz41_0
                            try clear hcz41_1
                            try clear hcz41_2
                            try clear hcz8_0
                            try clear hcz8_1
                            try clear hcz8_2
                            try clear hfz41_0
                            try clear hfz41_1
                            try clear hfz41_2
                            try clear hfz8_0
                            try clear hfz8_1
                            try clear hfz8_2
                            try clear p12
                            try clear p2
                            try clear p37
                            try clear p6
                            try clear q12
                            try clear q37
                            obtain ⟨kq, x55_22, rfl, HA, HJ22, BK127, BK129, HB⟩ := hcut
                            cases kq with
                            | zero => exact absurd HA.out (by simp [redo_DecodeFrame.j1])
                            | succ kj22 =>
                              have H := HA.out
                              clear HA
                              simp only [redo_DecodeFrame.j1] at H
                              by_cases c42 : x55_22 = true
                              · subst c42
                                have H1 : (some (0, 0, (⟨#[]⟩ : ByteArray), a1, 4)) = some (r1, r2, r3, r4, r5) := by rw [if_pos rfl] at H; exact H
                                clear H
                                have H := H1
                                clear H1
                                simp only [Option.some.injEq, Prod.mk.injEq] at H
                                obtain ⟨rfl, rfl, rfl, rfl, rfl⟩ := H
                                have hnb43 := NB127_129.out
                                have hnc43 := NB129_127.out
                                have hcz44_0 : wc.cell? ⟨gb127, 0, none⟩ = some (.int .i64 0) := (blk_cell BK127.out 0).trans rfl
                                have hcz44_1 : wc.cell? ⟨gb127, 1, none⟩ = some (.int .u64 0) := (blk_cell BK127.out 1).trans rfl
                                have hcz44_2 : wc.cell? ⟨gb127, 2, none⟩ = some (.string (⟨#[]⟩ : ByteArray)) := (blk_cell BK127.out 2).trans rfl
                                have hfz44_0 := blk_frozen BK127.out 0
                                have hfz44_1 := blk_frozen BK127.out 1
                                have hfz44_2 := blk_frozen BK127.out 2
                                go_wp2
                                refine bodyPost_ret (results_ctt rfl _ _ gb127 24 #[.int .i64 0, .int .u64 0, .string (⟨#[]⟩ : ByteArray)] (0, 0) _ rfl (by (with_reducible repeat (first | refine blk_drewN ?_ _ | refine blk_drew ?_ | refine blk_alloc ?_ _)); refine blk_put (cs := #[.int .i64 0, .int .u64 0, .string (⟨#[]⟩ : ByteArray)]) ?_ 2 _ rfl; (with_reducible repeat (first | refine blk_drewN ?_ _ | refine blk_drew ?_ | refine blk_alloc ?_ _)); refine blk_put (cs := #[.int .i64 0, .int .u64 0, .string (⟨#[]⟩ : ByteArray)]) ?_ 1 _ rfl; (with_reducible repeat (first | refine blk_drewN ?_ _ | refine blk_drew ?_ | refine blk_alloc ?_ _)); refine blk_put (cs := #[.int .i64 0, .int .u64 0, .string (⟨#[]⟩ : ByteArray)]) ?_ 0 _ rfl; (with_reducible repeat (first | refine blk_drewN ?_ _ | refine blk_drew ?_ | refine blk_alloc ?_ _)); exact BK127.out) Tryd.underlying24 rfl (by kernel_rfl)) rfl ?_
                                exact ⟨by first | rfl | (simp [errW_none, errW_some] <;> rfl) | (simp [*, errW_none, errW_some] <;> rfl), by repeat (first | (with_reducible first | exact HB.out | apply below_alloc | apply pw_below_drewN | apply below_drew1 | refine below_set ?_ GE127.out | refine below_set ?_ GE129.out) | exact HB.out)⟩
                              · replace c42 := Bool.eq_false_iff.mpr c42
                                subst c42
                                have H1 : (if (wrap64 (t130)) > (wrap64 (((a0.extract (a1 : Int).toNat a0.size).size : Int) - 24)) then (some (0, 0, (⟨#[]⟩ : ByteArray), a1, 1)) else (if 24 ≤ (wrap64 (24 + (wrap64 (t130)))) then (if (wrap64 (24 + (wrap64 (t130)))) ≤ ((a0.extract (a1 : Int).toNat a0.size).size : Int) then ((redo_word32.f (a0.extract (a1 : Int).toNat a0.size) 16).bind fun t137 => ((bits_Checksum.f kj22 (([(a0.extract (a1 : Int).toNat a0.size).extract 24 ((wrap64 (24 + (wrap64 (t130)))) : Int).toNat] : List ByteArray))).bind fun t141 => (if t137 = t141 then (some ((wrap64 (bt (a0.extract (a1 : Int).toNat a0.size) 2)), t128, (a0.extract (a1 : Int).toNat a0.size).extract 24 ((wrap64 (24 + (wrap64 (t130)))) : Int).toNat, wrap64 ((wrap64 (a1 + 24)) + (wrap64 (t130))), 0)) else (some (0, 0, (⟨#[]⟩ : ByteArray), a1, 5))))) else (none)) else (none))) = some (r1, r2, r3, r4, r5) := by rw [if_neg (show ¬ (false = true) by decide)] at H; exact H
                                clear H
                                have H := H1
                                clear H1
                                by_cases c45 : (wrap64 (t130)) > (wrap64 (((a0.extract (a1 : Int).toNat a0.size).size : Int) - 24))
                                · rw [if_pos c45] at H
                                  have c45b0 : decide ((wrap64 (((a0.extract (a1 : Int).toNat a0.size).size : Int) - 24)) < (wrap64 (t130))) = true := decide_eq_true c45
                                  have c45b0n4 : decide ((wrap64 (((a0.size - (a1 : Int).toNat : Nat) : Int) - 24)) < (wrap64 (t130))) = true := by have h := c45b0; rw [ByteArray.size_extract, Nat.min_self] at h; exact h -- fixfr
                                  have c45b0n5 : ((wrap64 (((a0.size - (a1 : Int).toNat : Nat) : Int) - 24)) < (wrap64 (t130))) = True := eq_true (of_decide_eq_true c45b0n4) -- fixfr
                                  clear c45
                                  simp only [Option.some.injEq, Prod.mk.injEq] at H
                                  obtain ⟨rfl, rfl, rfl, rfl, rfl⟩ := H
                                  have hnb46 := NB127_129.out
                                  have hnc46 := NB129_127.out
                                  have hcz47_0 : wc.cell? ⟨gb127, 0, none⟩ = some (.int .i64 0) := (blk_cell BK127.out 0).trans rfl
                                  have hcz47_1 : wc.cell? ⟨gb127, 1, none⟩ = some (.int .u64 0) := (blk_cell BK127.out 1).trans rfl
                                  have hcz47_2 : wc.cell? ⟨gb127, 2, none⟩ = some (.string (⟨#[]⟩ : ByteArray)) := (blk_cell BK127.out 2).trans rfl
                                  have hfz47_0 := blk_frozen BK127.out 0
                                  have hfz47_1 := blk_frozen BK127.out 1
                                  have hfz47_2 := blk_frozen BK127.out 2
                                  go_wp2
                                  refine bodyPost_ret (results_ctt rfl _ _ gb127 24 #[.int .i64 0, .int .u64 0, .string (⟨#[]⟩ : ByteArray)] (0, 0) _ rfl (by (with_reducible repeat (first | refine blk_drewN ?_ _ | refine blk_drew ?_ | refine blk_alloc ?_ _)); refine blk_put (cs := #[.int .i64 0, .int .u64 0, .string (⟨#[]⟩ : ByteArray)]) ?_ 2 _ rfl; (with_reducible repeat (first | refine blk_drewN ?_ _ | refine blk_drew ?_ | refine blk_alloc ?_ _)); refine blk_put (cs := #[.int .i64 0, .int .u64 0, .string (⟨#[]⟩ : ByteArray)]) ?_ 1 _ rfl; (with_reducible repeat (first | refine blk_drewN ?_ _ | refine blk_drew ?_ | refine blk_alloc ?_ _)); refine blk_put (cs := #[.int .i64 0, .int .u64 0, .string (⟨#[]⟩ : ByteArray)]) ?_ 0 _ rfl; (with_reducible repeat (first | refine blk_drewN ?_ _ | refine blk_drew ?_ | refine blk_alloc ?_ _)); exact BK127.out) Tryd.underlying24 rfl (by kernel_rfl)) rfl ?_
                                  exact ⟨by first | rfl | (simp [errW_none, errW_some] <;> rfl) | (simp [*, errW_none, errW_some] <;> rfl), by repeat (first | (with_reducible first | exact HB.out | apply below_alloc | apply pw_below_drewN | apply below_drew1 | refine below_set ?_ GE127.out | refine below_set ?_ GE129.out) | exact HB.out)⟩
                                · rw [if_neg c45] at H
                                  have c45b0 : decide ((wrap64 (((a0.extract (a1 : Int).toNat a0.size).size : Int) - 24)) < (wrap64 (t130))) = false := decide_eq_false c45
                                  have c45b0n4 : decide ((wrap64 (((a0.size - (a1 : Int).toNat : Nat) : Int) - 24)) < (wrap64 (t130))) = false := by have h := c45b0; rw [ByteArray.size_extract, Nat.min_self] at h; exact h -- fixfr
                                  have c45b0n5 : ((wrap64 (((a0.size - (a1 : Int).toNat : Nat) : Int) - 24)) < (wrap64 (t130))) = False := eq_false (of_decide_eq_false c45b0n4) -- fixfr
                                  clear c45
                                  by_cases c48 : 24 ≤ (wrap64 (24 + (wrap64 (t130))))
                                  · rw [if_pos c48] at H
                                    have c48b0 := eq_true c48
                                    have c48b1 : decide (24 ≤ (wrap64 (24 + (wrap64 (t130))))) = true := decide_eq_true c48
                                    by_cases c49 : (wrap64 (24 + (wrap64 (t130)))) ≤ ((a0.extract (a1 : Int).toNat a0.size).size : Int)
                                    · rw [if_pos c49] at H
                                      have c49b0 := eq_true c49
                                      have c49b1 : decide ((wrap64 (24 + (wrap64 (t130)))) ≤ ((a0.extract (a1 : Int).toNat a0.size).size : Int)) = true := decide_eq_true c49
                                      have c49b1n4 : decide ((wrap64 (24 + (wrap64 (t130)))) ≤ ((a0.size - (a1 : Int).toNat : Nat) : Int)) = true := by have h := c49b1; rw [ByteArray.size_extract, Nat.min_self] at h; exact h -- fixfr
                                      have c49b1n5 : ((wrap64 (24 + (wrap64 (t130)))) ≤ ((a0.size - (a1 : Int).toNat : Nat) : Int)) = True := eq_true (of_decide_eq_true c49b1n4) -- fixfr
                                      replace H := Option.bind_eq_some_iff.mp H
                                      obtain ⟨t137, A500, H⟩ := H
                                      replace H : ((bits_Checksum.f kj22 (([(a0.extract (a1 : Int).toNat a0.size).extract 24 ((wrap64 (24 + (wrap64 (t130)))) : Int).toNat] : List ByteArray))).bind fun t141 => (if t137 = t141 then (some ((wrap64 (bt (a0.extract (a1 : Int).toNat a0.size) 2)), t128, (a0.extract (a1 : Int).toNat a0.size).extract 24 ((wrap64 (24 + (wrap64 (t130)))) : Int).toNat, wrap64 ((wrap64 (a1 + 24)) + (wrap64 (t130))), 0)) else (some (0, 0, (⟨#[]⟩ : ByteArray), a1, 5)))) = some (r1, r2, r3, r4, r5) := H
                                      have A50 := Aside0.mk A500
                                      clear A500
                                      obtain ⟨y138, hy138⟩ : ∃ y_ : List ByteArray, y_ = (([(a0.extract (a1 : Int).toNat a0.size).extract 24 ((wrap64 (24 + (wrap64 (t130)))) : Int).toNat] : List ByteArray)) := ⟨_, rfl⟩
                                      replace H : ((bits_Checksum.f kj22 y138).bind fun t141 => (if t137 = t141 then (some ((wrap64 (bt (a0.extract (a1 : Int).toNat a0.size) 2)), t128, (a0.extract (a1 : Int).toNat a0.size).extract 24 ((wrap64 (24 + (wrap64 (t130)))) : Int).toNat, wrap64 ((wrap64 (a1 + 24)) + (wrap64 (t130))), 0)) else (some (0, 0, (⟨#[]⟩ : ByteArray), a1, 5)))) = some (r1, r2, r3, r4, r5) := by first | (rw [hy138]; with_reducible exact H) | (have H2_ := (Option.bind_some _ _).symm.trans H; rw [hy138]; with_reducible exact H2_) | (have H2_ := (Option.bind_some _ _).symm.trans H; with_reducible exact H2_) | with_reducible exact H | (rw [hy138]; exact H) | exact H
                                      have Ny138 := Aside0.mk hy138
                                      clear hy138
                                      replace H := Option.bind_eq_some_iff.mp H
                                      obtain ⟨t141, A510, H⟩ := H
                                      replace H : (if t137 = t141 then (some ((wrap64 (bt (a0.extract (a1 : Int).toNat a0.size) 2)), t128, (a0.extract (a1 : Int).toNat a0.size).extract 24 ((wrap64 (24 + (wrap64 (t130)))) : Int).toNat, wrap64 ((wrap64 (a1 + 24)) + (wrap64 (t130))), 0)) else (some (0, 0, (⟨#[]⟩ : ByteArray), a1, 5))) = some (r1, r2, r3, r4, r5) := H
                                      have A51 := Aside0.mk A510
                                      clear A510
                                      by_cases c52 : t137 = t141
                                      · rw [if_pos c52] at H
                                        have c52b0 : (t137 == t141) = true := beq_iff_eq.mpr c52
                                        have c52b1 : (t137 != t141) = false := bne_eq_false_iff_eq.mpr c52
                                        clear c52
                                        simp only [Option.some.injEq, Prod.mk.injEq] at H
                                        obtain ⟨rfl, rfl, rfl, rfl, rfl⟩ := H
                                        have hnb53 := NB129_127.out
                                        have hnc53 := NB127_129.out
                                        have hcz54_0 : wc.cell? ⟨gb129, 0, none⟩ = some (.int .i64 (wrap64 (bt (a0.extract (a1 : Int).toNat a0.size) 2))) := (blk_cell BK129.out 0).trans rfl
                                        have hcz54_1 : wc.cell? ⟨gb129, 1, none⟩ = some (.int .u64 t128) := (blk_cell BK129.out 1).trans rfl
                                        have hcz54_2 : wc.cell? ⟨gb129, 2, none⟩ = some (.string (⟨#[]⟩ : ByteArray)) := (blk_cell BK129.out 2).trans rfl
                                        have hfz54_0 := blk_frozen BK129.out 0
                                        have hfz54_1 := blk_frozen BK129.out 1
                                        have hfz54_2 := blk_frozen BK129.out 2
                                        try go_wp2
                                        have n0_ : Aside0 ((wc.setCell ⟨gb129, 2, none⟩ (.string ((a0.extract (a1 : Int).toNat a0.size).extract 24 ((wrap64 (24 + (wrap64 (t130)))) : Int).toNat))).heap[gb127]? = some (.cells #[.int .i64 0, .int .u64 0, .string (⟨#[]⟩ : ByteArray)] 24 (0, 0))) := ⟨by (with_reducible repeat (first | refine blk_drewN ?_ _ | refine blk_drew ?_ | refine blk_alloc ?_ _)); refine blk_far ?_ NB127_129.out _; (with_reducible repeat (first | refine blk_drewN ?_ _ | refine blk_drew ?_ | refine blk_alloc ?_ _)); exact BK127.out⟩
                                        have n1_ : Aside0 ((wc.setCell ⟨gb129, 2, none⟩ (.string ((a0.extract (a1 : Int).toNat a0.size).extract 24 ((wrap64 (24 + (wrap64 (t130)))) : Int).toNat))).heap[gb129]? = some (.cells #[.int .i64 (wrap64 (bt (a0.extract (a1 : Int).toNat a0.size) 2)), .int .u64 t128, .string ((a0.extract (a1 : Int).toNat a0.size).extract 24 ((wrap64 (24 + (wrap64 (t130)))) : Int).toNat)] 24 (0, 0))) := ⟨by (with_reducible repeat (first | refine blk_drewN ?_ _ | refine blk_drew ?_ | refine blk_alloc ?_ _)); refine blk_put (cs := #[.int .i64 (wrap64 (bt (a0.extract (a1 : Int).toNat a0.size) 2)), .int .u64 t128, .string (⟨#[]⟩ : ByteArray)]) ?_ 2 _ rfl; (with_reducible repeat (first | refine blk_drewN ?_ _ | refine blk_drew ?_ | refine blk_alloc ?_ _)); exact BK129.out⟩
                                        have n2_ : Aside0 (Below w.heap.size w (wc.setCell ⟨gb129, 2, none⟩ (.string ((a0.extract (a1 : Int).toNat a0.size).extract 24 ((wrap64 (24 + (wrap64 (t130)))) : Int).toNat)))) := ⟨by repeat (first | (with_reducible first | exact HB.out | apply below_alloc | apply pw_below_drewN | apply below_drew1 | refine below_set ?_ GE127.out | refine below_set ?_ GE129.out) | exact HB.out)⟩
                                        (try clear BK127)
                                        (try clear BK129)
                                        (try clear HB)
                                        generalize (wc.setCell ⟨gb129, 2, none⟩ (.string ((a0.extract (a1 : Int).toNat a0.size).extract 24 ((wrap64 (24 + (wrap64 (t130)))) : Int).toNat))) = w55 at n0_ n1_ n2_ ⊢
                                        have BK127 := n0_
                                        have BK129 := n1_
                                        have HB := n2_
                                        clear n0_ n1_ n2_
                                        have n0_ := Aside0.mk (blk_drew BK127.out)
                                        have n1_ := Aside0.mk (blk_drew BK129.out)
                                        have n2_ := Aside0.mk (below_drew1 HB.out)
                                        clear BK127
                                        clear BK129
                                        clear HB
                                        have BK127 := n0_
                                        have BK129 := n1_
                                        have HB := n2_
                                        clear n0_ n1_ n2_
                                        refine start_ (n := 7) (S := fun w' => w'.cell? ⟨gb129, 0, none⟩ = some (.int .i64 (wrap64 (bt (a0.extract (a1 : Int).toNat a0.size) 2))) ∧ w'.cell? ⟨gb129, 1, none⟩ = some (.int .u64 t128) ∧ w'.cell? ⟨gb129, 2, none⟩ = some (.string ((a0.extract (a1 : Int).toNat a0.size).extract 24 ((wrap64 (24 + (wrap64 (t130)))) : Int).toNat))) (ds := []) #[false, false, false, false, false, false, false] (by kernel_rfl) rfl rfl ⟨(blk_cell BK129.out 0).trans rfl, (blk_cell BK129.out 1).trans rfl, (blk_cell BK129.out 2).trans rfl⟩ (fun hHeld => ?_)
                                        generalize w55.drew = w56 at BK127 BK129 HB hHeld ⊢
                                        refine pure_ (i := 0) (N := some 83) (v := ?_) (a' := ?_) #[true, false, false, false, false, false, false] rfl rfl (by kernel_rfl) (fun _ _ _ h => h) (Or.inl ⟨by rfl, ?_⟩) ?_ ?_
                                        rotate_left
                                        · intro w'
                                          go_simp
                                          with_reducible rfl
                                        rotate_left
                                        · simp only [Act.put, List.setIfInBounds_toArray, List.set_cons_zero, List.set_cons_succ, i64_w, i32_w]
                                          rfl
                                        refine pure_ (i := 2) (N := some 85) (v := ?_) (a' := ?_) #[true, false, true, false, false, false, false] rfl rfl (by kernel_rfl) (fun _ _ _ h => h) (Or.inl ⟨by rfl, ?_⟩) ?_ ?_
                                        rotate_left
                                        · intro w'
                                          go_simp
                                          with_reducible rfl
                                        rotate_left
                                        · simp only [Act.put, List.setIfInBounds_toArray, List.set_cons_zero, List.set_cons_succ, i64_w, i32_w]
                                          rfl
                                        refine take_ (i := 3) (N := some 86) (v := ?_) (a' := ?_) #[true, false, true, true, false, false, false] rfl rfl (by kernel_rfl) (fun _ _ _ h => h) (Or.inl ⟨by rfl, ?_⟩) hHeld ?_ ?_
                                        rotate_left
                                        · rintro w' ⟨s0, s1, s2⟩
                                          go_simp
                                          with_reducible rfl
                                        rotate_left
                                        · simp only [Act.put, List.setIfInBounds_toArray, List.set_cons_zero, List.set_cons_succ, i64_w, i32_w]
                                          rfl
                                        refine join_ (σ := Value) 2 #[true, true, true, true, true, false, false] (fun s_ => [(84, .int .u32 t137), (87, s_)]) (fun s_ w' => (w'.cell? ⟨gb129, 0, none⟩ = some (.int .i64 (wrap64 (bt (a0.extract (a1 : Int).toNat a0.size) 2))) ∧ w'.cell? ⟨gb129, 1, none⟩ = some (.int .u64 t128) ∧ w'.cell? ⟨gb129, 2, none⟩ = some (.string ((a0.extract (a1 : Int).toNat a0.size).extract 24 ((wrap64 (24 + (wrap64 (t130)))) : Int).toNat))) ∧ (Kd.R Kd.string 9 w' w.heap.size (fun _ => True) s_ y138) ∧ (w'.heap[gb127]? = some (.cells #[.int .i64 0, .int .u64 0, .string (⟨#[]⟩ : ByteArray)] 24 (0, 0))) ∧ (w'.heap[gb129]? = some (.cells #[.int .i64 (wrap64 (bt (a0.extract (a1 : Int).toNat a0.size) 2)), .int .u64 t128, .string ((a0.extract (a1 : Int).toNat a0.size).extract 24 ((wrap64 (24 + (wrap64 (t130)))) : Int).toNat)] 24 (0, 0))) ∧ (Below w.heap.size w w')) ?_ ?_
                                        rotate_left
                                        · intro hCont
                                          refine two_ (i := 1) (j := 4) (Ni := some 84) (Nj := some 87) #[true, true, true, true, false, false, false] #[true, false, true, true, true, false, false] rfl rfl rfl rfl (by kernel_rfl) (by decide) (by decide) (fun K hK => ?_) (fun K hK => ?_)
                                          · skip
                                            refine goes_ Tryd.func49 (by kernel_rfl) rfl #[.string (a0.extract (a1 : Int).toNat a0.size), .int .i64 16] (by rfl) rfl rfl (by (try simp only [List.map_toArray, List.map_cons, List.map_nil]); first | done | rfl | (simp only [List.length_drop, List.length_take]; rfl)) ?_
                                            with_reducible refine (redo_word32.calls (a0.extract (a1 : Int).toNat a0.size) 16 t137 _ A50.out).mono ?_
                                            rintro e w' ⟨rfl, ⟨nd, rfl⟩⟩
                                            refine ⟨_, rfl, ?_⟩
                                            refine hK.out _ _ ⟨(blk_cell BK129.out 0).trans rfl, (blk_cell BK129.out 1).trans rfl, (blk_cell BK129.out 2).trans rfl⟩ (fun hHeld => ?_)
                                            clear hK K
                                            refine norm_ (a' := ?_) ?_ ?_
                                            rotate_left
                                            · show Act.put _ (some 84) _ = _
                                              simp only [Act.put, List.setIfInBounds_toArray, List.set_cons_zero, List.set_cons_succ, i64_w, i32_w]
                                              rfl
                                            refine one_ (i := 4) (N := some 87) #[true, true, true, true, true, false, false] rfl rfl (by kernel_rfl) (by decide) (fun K hK => ?_)
                                            refine Kd.R_lit_step Kd.string _ 9 ?hg (N := 87) ?hd (xs := ([(a0.extract (a1 : Int).toNat a0.size).extract 24 ((wrap64 (24 + (wrap64 (t130)))) : Int).toNat] : List ByteArray)) (inner := [.string ((a0.extract (a1 : Int).toNat a0.size).extract 24 ((wrap64 (24 + (wrap64 (t130)))) : Int).toNat)]) (ok := fun _ => True) (okp := fun _ => True) ?hr ?hp (fun _ hk => hk) trivial (Below.refl _ _) (Nat.le_refl _) (by simp) ?_; (case hd => rfl); (case hg => rfl); (case hr => first | (go_simp; done) | (go_simp; rfl)); (case hp => exact (Reps.one (show Kd.M Kd.string _ _ _ ((a0.extract (a1 : Int).toNat a0.size).extract 24 ((wrap64 (24 + (wrap64 (t130)))) : Int).toNat) [.string ((a0.extract (a1 : Int).toNat a0.size).extract 24 ((wrap64 (24 + (wrap64 (t130)))) : Int).toNat)] from rfl) (Reps.none _ _)))
                                            intro v139 w57 ho58 hb hg_ hnew_
                                            clear hg_ hnew_
                                            (first | rw [← Ny138.out] at ho58 | (simp only [Int.reduceToNat] at ho58; rw [← Ny138.out] at ho58))
                                            have n0_ := Aside0.mk (Kd.R_lower ho58 (below_size (by repeat (first | (with_reducible first | exact HB.out | apply below_alloc | apply pw_below_drewN | apply below_drew1 | refine below_set ?_ GE127.out | refine below_set ?_ GE129.out) | exact HB.out))))
                                            have n1_ := Aside0.mk (blk_below (g := gb127) (o := .cells #[.int .i64 0, .int .u64 0, .string (⟨#[]⟩ : ByteArray)] 24 (0, 0)) (by (with_reducible repeat (first | refine blk_drewN ?_ _ | refine blk_drew ?_ | refine blk_alloc ?_ _)); exact BK127.out) hb)
                                            have n2_ := Aside0.mk (blk_below (g := gb129) (o := .cells #[.int .i64 (wrap64 (bt (a0.extract (a1 : Int).toNat a0.size) 2)), .int .u64 t128, .string ((a0.extract (a1 : Int).toNat a0.size).extract 24 ((wrap64 (24 + (wrap64 (t130)))) : Int).toNat)] 24 (0, 0)) (by (with_reducible repeat (first | refine blk_drewN ?_ _ | refine blk_drew ?_ | refine blk_alloc ?_ _)); exact BK129.out) hb)
                                            have n3_ := Aside0.mk (below_step (by repeat (first | (with_reducible first | exact HB.out | apply below_alloc | apply pw_below_drewN | apply below_drew1 | refine below_set ?_ GE127.out | refine below_set ?_ GE129.out) | exact HB.out)) hb)
                                            clear BK127
                                            clear BK129
                                            clear HB
                                            have HO140 := n0_
                                            have BK127 := n1_
                                            have BK129 := n2_
                                            have HB := n3_
                                            clear n0_ n1_ n2_ n3_
                                            clear hb ho58
                                            refine hK.out _ _ ⟨(blk_cell BK129.out 0).trans rfl, (blk_cell BK129.out 1).trans rfl, (blk_cell BK129.out 2).trans rfl⟩ (fun hHeld => ?_)
                                            clear hK K
                                            refine norm_ (a' := ?_) ?_ ?_
                                            rotate_left
                                            · show Act.put _ (some 87) _ = _
                                              simp only [Act.put, List.setIfInBounds_toArray, List.set_cons_zero, List.set_cons_succ, i64_w, i32_w]
                                              rfl
                                            exact norm_ (by simp only [putAll, Act.put, List.setIfInBounds_toArray, List.set_cons_zero, List.set_cons_succ]) (hCont (v139) _ ⟨hHeld, (by (with_reducible repeat (first | apply Kd.R_alloc | apply Kd.R_drewN | apply Kd.R_drew)); exact HO140.out), (by (with_reducible repeat (first | refine blk_drewN ?_ _ | refine blk_drew ?_ | refine blk_alloc ?_ _)); exact BK127.out), (by (with_reducible repeat (first | refine blk_drewN ?_ _ | refine blk_drew ?_ | refine blk_alloc ?_ _)); exact BK129.out), (by repeat (first | (with_reducible first | exact HB.out | apply below_alloc | apply pw_below_drewN | apply below_drew1 | refine below_set ?_ GE127.out | refine below_set ?_ GE129.out) | exact HB.out))⟩)
                                          · skip
                                            refine Kd.R_lit_step Kd.string _ 9 ?hg (N := 87) ?hd (xs := ([(a0.extract (a1 : Int).toNat a0.size).extract 24 ((wrap64 (24 + (wrap64 (t130)))) : Int).toNat] : List ByteArray)) (inner := [.string ((a0.extract (a1 : Int).toNat a0.size).extract 24 ((wrap64 (24 + (wrap64 (t130)))) : Int).toNat)]) (ok := fun _ => True) (okp := fun _ => True) ?hr ?hp (fun _ hk => hk) trivial (Below.refl _ _) (Nat.le_refl _) (by simp) ?_; (case hd => rfl); (case hg => rfl); (case hr => first | (go_simp; done) | (go_simp; rfl)); (case hp => exact (Reps.one (show Kd.M Kd.string _ _ _ ((a0.extract (a1 : Int).toNat a0.size).extract 24 ((wrap64 (24 + (wrap64 (t130)))) : Int).toNat) [.string ((a0.extract (a1 : Int).toNat a0.size).extract 24 ((wrap64 (24 + (wrap64 (t130)))) : Int).toNat)] from rfl) (Reps.none _ _)))
                                            intro v139 w57 ho58 hb hg_ hnew_
                                            clear hg_ hnew_
                                            (first | rw [← Ny138.out] at ho58 | (simp only [Int.reduceToNat] at ho58; rw [← Ny138.out] at ho58))
                                            have n0_ := Aside0.mk (Kd.R_lower ho58 (below_size (by repeat (first | (with_reducible first | exact HB.out | apply below_alloc | apply pw_below_drewN | apply below_drew1 | refine below_set ?_ GE127.out | refine below_set ?_ GE129.out) | exact HB.out))))
                                            have n1_ := Aside0.mk (blk_below (g := gb127) (o := .cells #[.int .i64 0, .int .u64 0, .string (⟨#[]⟩ : ByteArray)] 24 (0, 0)) (by (with_reducible repeat (first | refine blk_drewN ?_ _ | refine blk_drew ?_ | refine blk_alloc ?_ _)); exact BK127.out) hb)
                                            have n2_ := Aside0.mk (blk_below (g := gb129) (o := .cells #[.int .i64 (wrap64 (bt (a0.extract (a1 : Int).toNat a0.size) 2)), .int .u64 t128, .string ((a0.extract (a1 : Int).toNat a0.size).extract 24 ((wrap64 (24 + (wrap64 (t130)))) : Int).toNat)] 24 (0, 0)) (by (with_reducible repeat (first | refine blk_drewN ?_ _ | refine blk_drew ?_ | refine blk_alloc ?_ _)); exact BK129.out) hb)
                                            have n3_ := Aside0.mk (below_step (by repeat (first | (with_reducible first | exact HB.out | apply below_alloc | apply pw_below_drewN | apply below_drew1 | refine below_set ?_ GE127.out | refine below_set ?_ GE129.out) | exact HB.out)) hb)
                                            clear BK127
                                            clear BK129
                                            clear HB
                                            have HO140 := n0_
                                            have BK127 := n1_
                                            have BK129 := n2_
                                            have HB := n3_
                                            clear n0_ n1_ n2_ n3_
                                            clear hb ho58
                                            refine hK.out _ _ ⟨(blk_cell BK129.out 0).trans rfl, (blk_cell BK129.out 1).trans rfl, (blk_cell BK129.out 2).trans rfl⟩ (fun hHeld => ?_)
                                            clear hK K
                                            refine norm_ (a' := ?_) ?_ ?_
                                            rotate_left
                                            · show Act.put _ (some 87) _ = _
                                              simp only [Act.put, List.setIfInBounds_toArray, List.set_cons_zero, List.set_cons_succ, i64_w, i32_w]
                                              rfl
                                            refine one_ (i := 1) (N := some 84) #[true, true, true, true, true, false, false] rfl rfl (by kernel_rfl) (by decide) (fun K hK => ?_)
                                            refine goes_ Tryd.func49 (by kernel_rfl) rfl #[.string (a0.extract (a1 : Int).toNat a0.size), .int .i64 16] (by rfl) rfl rfl (by (try simp only [List.map_toArray, List.map_cons, List.map_nil]); first | done | rfl | (simp only [List.length_drop, List.length_take]; rfl)) ?_
                                            with_reducible refine (redo_word32.calls (a0.extract (a1 : Int).toNat a0.size) 16 t137 _ A50.out).mono ?_
                                            rintro e w' ⟨rfl, ⟨nd, rfl⟩⟩
                                            refine ⟨_, rfl, ?_⟩
                                            refine hK.out _ _ ⟨(blk_cell BK129.out 0).trans rfl, (blk_cell BK129.out 1).trans rfl, (blk_cell BK129.out 2).trans rfl⟩ (fun hHeld => ?_)
                                            clear hK K
                                            refine norm_ (a' := ?_) ?_ ?_
                                            rotate_left
                                            · show Act.put _ (some 84) _ = _
                                              simp only [Act.put, List.setIfInBounds_toArray, List.set_cons_zero, List.set_cons_succ, i64_w, i32_w]
                                              rfl
                                            exact norm_ (by simp only [putAll, Act.put, List.setIfInBounds_toArray, List.set_cons_zero, List.set_cons_succ]) (hCont (v139) _ ⟨hHeld, (by (with_reducible repeat (first | apply Kd.R_alloc | apply Kd.R_drewN | apply Kd.R_drew)); exact HO140.out), (by (with_reducible repeat (first | refine blk_drewN ?_ _ | refine blk_drew ?_ | refine blk_alloc ?_ _)); exact BK127.out), (by (with_reducible repeat (first | refine blk_drewN ?_ _ | refine blk_drew ?_ | refine blk_alloc ?_ _)); exact BK129.out), (by repeat (first | (with_reducible first | exact HB.out | apply below_alloc | apply pw_below_drewN | apply below_drew1 | refine below_set ?_ GE127.out | refine below_set ?_ GE129.out) | exact HB.out))⟩)
                                        rintro v139 w59 ⟨hS_, h0_, h1_, h2_, h3_⟩
                                        have n0_ : Aside0 (Kd.R Kd.string 9 w59 w.heap.size (fun _ => True) v139 y138) := ⟨h0_⟩
                                        have n1_ : Aside0 (w59.heap[gb127]? = some (.cells #[.int .i64 0, .int .u64 0, .string (⟨#[]⟩ : ByteArray)] 24 (0, 0))) := ⟨h1_⟩
                                        have n2_ : Aside0 (w59.heap[gb129]? = some (.cells #[.int .i64 (wrap64 (bt (a0.extract (a1 : Int).toNat a0.size) 2)), .int .u64 t128, .string ((a0.extract (a1 : Int).toNat a0.size).extract 24 ((wrap64 (24 + (wrap64 (t130)))) : Int).toNat)] 24 (0, 0))) := ⟨h2_⟩
                                        have n3_ : Aside0 (Below w.heap.size w w59) := ⟨h3_⟩
                                        clear BK127
                                        clear BK129
                                        clear HB
                                        clear h0_ h1_ h2_ h3_
                                        have HO140 := n0_
                                        have BK127 := n1_
                                        have BK129 := n2_
                                        have HB := n3_
                                        clear n0_ n1_ n2_ n3_
                                        have hHeld : w59.cell? ⟨gb129, 0, none⟩ = some (.int .i64 (wrap64 (bt (a0.extract (a1 : Int).toNat a0.size) 2))) ∧ w59.cell? ⟨gb129, 1, none⟩ = some (.int .u64 t128) ∧ w59.cell? ⟨gb129, 2, none⟩ = some (.string ((a0.extract (a1 : Int).toNat a0.size).extract 24 ((wrap64 (24 + (wrap64 (t130)))) : Int).toNat)) := hS_
                                        obtain ⟨Ao60, co60, eo60⟩ := Kd.R_slice HO140.out
                                        (first | subst eo60 | (injection eo60 with f1_ f2_ f3_; have f4_ := f1_.symm; have f5_ := f3_.symm; clear f1_ f2_ f3_; subst f4_; subst f5_))
                                        refine norm_ (a' := ?_) ?_ ?_
                                        rotate_left
                                        · simp only [putAll, Act.put, List.setIfInBounds_toArray, List.set_cons_zero, List.set_cons_succ]
                                          rfl
                                        refine one_ (i := 5) (N := some 88) #[true, true, true, true, true, true, false] rfl rfl (by kernel_rfl) (by decide) (fun K hK => ?_)
                                        refine goes_ Tryd.func42 (by kernel_rfl) rfl #[.slice Ao60 y138.length co60] (by rfl) rfl rfl (by (try simp only [List.map_toArray, List.map_cons, List.map_nil]); first | done | rfl | (simp only [List.length_drop, List.length_take]; rfl)) ?_
                                        with_reducible refine (bits_Checksum.calls kj22 _ _ y138 t141 _ ?side1 ?side2 A51.out (by first | exact hT | exact hT.drewN _ | exact Tab.below hT (by repeat (first | (with_reducible first | exact HB.out | apply below_alloc | apply pw_below_drewN | apply below_drew1) | exact HB.out)))).mono ?_
                                        (case side1 => repeat (first | exact (Kd.R_reads' HO140.out).2.2 | (with_reducible refine Kd.C_alloc ?_ _) | (with_reducible refine Kd.C_drewN ?_ _) | (with_reducible refine Kd.C_drew ?_)))
                                        (case side2 => exact (Kd.R_reads' HO140.out).2.1)
                                        rintro e w' ⟨rfl, ⟨nd, rfl⟩⟩
                                        refine ⟨_, rfl, ?_⟩
                                        refine hK.out _ _ ⟨(blk_cell BK129.out 0).trans rfl, (blk_cell BK129.out 1).trans rfl, (blk_cell BK129.out 2).trans rfl⟩ (fun hHeld => ?_)
                                        clear hK K
                                        refine norm_ (a' := ?_) ?_ ?_
                                        rotate_left
                                        · show Act.put _ (some 88) _ = _
                                          simp only [Act.put, List.setIfInBounds_toArray, List.set_cons_zero, List.set_cons_succ, i64_w, i32_w]
                                          rfl
                                        refine pure_ (i := 6) (N := some 89) (v := ?_) (a' := ?_) #[true, true, true, true, true, true, true] rfl rfl (by kernel_rfl) (fun _ _ _ h => h) (Or.inl ⟨by rfl, ?_⟩) ?_ ?_
                                        rotate_left
                                        · intro w'
                                          go_simp
                                          with_reducible rfl
                                        rotate_left
                                        · simp only [Act.put, List.setIfInBounds_toArray, List.set_cons_zero, List.set_cons_succ, i64_w, i32_w]
                                          rfl
                                        refine done_ (by kernel_rfl) ?_
                                        have hcz61_0 : w59.cell? ⟨gb129, 0, none⟩ = some (.int .i64 (wrap64 (bt (a0.extract (a1 : Int).toNat a0.size) 2))) := (blk_cell BK129.out 0).trans rfl
                                        have hcz61_1 : w59.cell? ⟨gb129, 1, none⟩ = some (.int .u64 t128) := (blk_cell BK129.out 1).trans rfl
                                        have hcz61_2 : w59.cell? ⟨gb129, 2, none⟩ = some (.string ((a0.extract (a1 : Int).toNat a0.size).extract 24 ((wrap64 (24 + (wrap64 (t130)))) : Int).toNat)) := (blk_cell BK129.out 2).trans rfl
                                        have hfz61_0 := blk_frozen BK129.out 0
                                        have hfz61_1 := blk_frozen BK129.out 1
                                        have hfz61_2 := blk_frozen BK129.out 2
                                        have hcz62_0 : w59.cell? ⟨gb127, 0, none⟩ = some (.int .i64 0) := (blk_cell BK127.out 0).trans rfl
                                        have hcz62_1 : w59.cell? ⟨gb127, 1, none⟩ = some (.int .u64 0) := (blk_cell BK127.out 1).trans rfl
                                        have hcz62_2 : w59.cell? ⟨gb127, 2, none⟩ = some (.string (⟨#[]⟩ : ByteArray)) := (blk_cell BK127.out 2).trans rfl
                                        have hfz62_0 := blk_frozen BK127.out 0
                                        have hfz62_1 := blk_frozen BK127.out 1
                                        have hfz62_2 := blk_frozen BK127.out 2
                                        try go_wp2
                                        refine bodyPost_ret (results_ctt rfl _ _ gb127 24 #[.int .i64 (wrap64 (bt (a0.extract (a1 : Int).toNat a0.size) 2)), .int .u64 t128, .string ((a0.extract (a1 : Int).toNat a0.size).extract 24 ((wrap64 (24 + (wrap64 (t130)))) : Int).toNat)] (0, 0) _ rfl (by (with_reducible repeat (first | refine blk_drewN ?_ _ | refine blk_drew ?_ | refine blk_alloc ?_ _)); refine blk_put (cs := #[.int .i64 (wrap64 (bt (a0.extract (a1 : Int).toNat a0.size) 2)), .int .u64 t128, .string (⟨#[]⟩ : ByteArray)]) ?_ 2 _ rfl; (with_reducible repeat (first | refine blk_drewN ?_ _ | refine blk_drew ?_ | refine blk_alloc ?_ _)); refine blk_put (cs := #[.int .i64 (wrap64 (bt (a0.extract (a1 : Int).toNat a0.size) 2)), .int .u64 0, .string (⟨#[]⟩ : ByteArray)]) ?_ 1 _ rfl; (with_reducible repeat (first | refine blk_drewN ?_ _ | refine blk_drew ?_ | refine blk_alloc ?_ _)); refine blk_put (cs := #[.int .i64 0, .int .u64 0, .string (⟨#[]⟩ : ByteArray)]) ?_ 0 _ rfl; (with_reducible repeat (first | refine blk_drewN ?_ _ | refine blk_drew ?_ | refine blk_alloc ?_ _)); exact BK127.out) Tryd.underlying24 rfl (by kernel_rfl)) rfl ?_
                                        exact ⟨by first | rfl | (simp [errW_none, errW_some] <;> rfl) | (simp [*, errW_none, errW_some] <;> rfl), by repeat (first | (with_reducible first | exact HB.out | apply below_alloc | apply pw_below_drewN | apply below_drew1 | refine below_set ?_ GE127.out | refine below_set ?_ GE129.out) | exact HB.out)⟩
                                      · rw [if_neg c52] at H
                                        have c52b0 : (t137 == t141) = false := beq_eq_false_iff_ne.mpr c52
                                        have c52b1 : (t137 != t141) = true := bne_iff_ne.mpr c52
                                        simp only [Option.some.injEq, Prod.mk.injEq] at H
                                        obtain ⟨rfl, rfl, rfl, rfl, rfl⟩ := H
                                        have hnb63 := NB129_127.out
                                        have hnc63 := NB127_129.out
                                        have hcz64_0 : wc.cell? ⟨gb129, 0, none⟩ = some (.int .i64 (wrap64 (bt (a0.extract (a1 : Int).toNat a0.size) 2))) := (blk_cell BK129.out 0).trans rfl
                                        have hcz64_1 : wc.cell? ⟨gb129, 1, none⟩ = some (.int .u64 t128) := (blk_cell BK129.out 1).trans rfl
                                        have hcz64_2 : wc.cell? ⟨gb129, 2, none⟩ = some (.string (⟨#[]⟩ : ByteArray)) := (blk_cell BK129.out 2).trans rfl
                                        have hfz64_0 := blk_frozen BK129.out 0
                                        have hfz64_1 := blk_frozen BK129.out 1
                                        have hfz64_2 := blk_frozen BK129.out 2
                                        try go_wp2
                                        have n0_ : Aside0 ((wc.setCell ⟨gb129, 2, none⟩ (.string ((a0.extract (a1 : Int).toNat a0.size).extract 24 ((wrap64 (24 + (wrap64 (t130)))) : Int).toNat))).heap[gb127]? = some (.cells #[.int .i64 0, .int .u64 0, .string (⟨#[]⟩ : ByteArray)] 24 (0, 0))) := ⟨by (with_reducible repeat (first | refine blk_drewN ?_ _ | refine blk_drew ?_ | refine blk_alloc ?_ _)); refine blk_far ?_ NB127_129.out _; (with_reducible repeat (first | refine blk_drewN ?_ _ | refine blk_drew ?_ | refine blk_alloc ?_ _)); exact BK127.out⟩
                                        have n1_ : Aside0 ((wc.setCell ⟨gb129, 2, none⟩ (.string ((a0.extract (a1 : Int).toNat a0.size).extract 24 ((wrap64 (24 + (wrap64 (t130)))) : Int).toNat))).heap[gb129]? = some (.cells #[.int .i64 (wrap64 (bt (a0.extract (a1 : Int).toNat a0.size) 2)), .int .u64 t128, .string ((a0.extract (a1 : Int).toNat a0.size).extract 24 ((wrap64 (24 + (wrap64 (t130)))) : Int).toNat)] 24 (0, 0))) := ⟨by (with_reducible repeat (first | refine blk_drewN ?_ _ | refine blk_drew ?_ | refine blk_alloc ?_ _)); refine blk_put (cs := #[.int .i64 (wrap64 (bt (a0.extract (a1 : Int).toNat a0.size) 2)), .int .u64 t128, .string (⟨#[]⟩ : ByteArray)]) ?_ 2 _ rfl; (with_reducible repeat (first | refine blk_drewN ?_ _ | refine blk_drew ?_ | refine blk_alloc ?_ _)); exact BK129.out⟩
                                        have n2_ : Aside0 (Below w.heap.size w (wc.setCell ⟨gb129, 2, none⟩ (.string ((a0.extract (a1 : Int).toNat a0.size).extract 24 ((wrap64 (24 + (wrap64 (t130)))) : Int).toNat)))) := ⟨by repeat (first | (with_reducible first | exact HB.out | apply below_alloc | apply pw_below_drewN | apply below_drew1 | refine below_set ?_ GE127.out | refine below_set ?_ GE129.out) | exact HB.out)⟩
                                        (try clear BK127)
                                        (try clear BK129)
                                        (try clear HB)
                                        generalize (wc.setCell ⟨gb129, 2, none⟩ (.string ((a0.extract (a1 : Int).toNat a0.size).extract 24 ((wrap64 (24 + (wrap64 (t130)))) : Int).toNat))) = w65 at n0_ n1_ n2_ ⊢
                                        have BK127 := n0_
                                        have BK129 := n1_
                                        have HB := n2_
                                        clear n0_ n1_ n2_
                                        have n0_ := Aside0.mk (blk_drew BK127.out)
                                        have n1_ := Aside0.mk (blk_drew BK129.out)
                                        have n2_ := Aside0.mk (below_drew1 HB.out)
                                        clear BK127
                                        clear BK129
                                        clear HB
                                        have BK127 := n0_
                                        have BK129 := n1_
                                        have HB := n2_
                                        clear n0_ n1_ n2_
                                        refine start_ (n := 7) (S := fun w' => w'.cell? ⟨gb129, 0, none⟩ = some (.int .i64 (wrap64 (bt (a0.extract (a1 : Int).toNat a0.size) 2))) ∧ w'.cell? ⟨gb129, 1, none⟩ = some (.int .u64 t128) ∧ w'.cell? ⟨gb129, 2, none⟩ = some (.string ((a0.extract (a1 : Int).toNat a0.size).extract 24 ((wrap64 (24 + (wrap64 (t130)))) : Int).toNat))) (ds := []) #[false, false, false, false, false, false, false] (by kernel_rfl) rfl rfl ⟨(blk_cell BK129.out 0).trans rfl, (blk_cell BK129.out 1).trans rfl, (blk_cell BK129.out 2).trans rfl⟩ (fun hHeld => ?_)
                                        generalize w65.drew = w66 at BK127 BK129 HB hHeld ⊢
                                        refine pure_ (i := 0) (N := some 83) (v := ?_) (a' := ?_) #[true, false, false, false, false, false, false] rfl rfl (by kernel_rfl) (fun _ _ _ h => h) (Or.inl ⟨by rfl, ?_⟩) ?_ ?_
                                        rotate_left
                                        · intro w'
                                          go_simp
                                          with_reducible rfl
                                        rotate_left
                                        · simp only [Act.put, List.setIfInBounds_toArray, List.set_cons_zero, List.set_cons_succ, i64_w, i32_w]
                                          rfl
                                        refine pure_ (i := 2) (N := some 85) (v := ?_) (a' := ?_) #[true, false, true, false, false, false, false] rfl rfl (by kernel_rfl) (fun _ _ _ h => h) (Or.inl ⟨by rfl, ?_⟩) ?_ ?_
                                        rotate_left
                                        · intro w'
                                          go_simp
                                          with_reducible rfl
                                        rotate_left
                                        · simp only [Act.put, List.setIfInBounds_toArray, List.set_cons_zero, List.set_cons_succ, i64_w, i32_w]
                                          rfl
                                        refine take_ (i := 3) (N := some 86) (v := ?_) (a' := ?_) #[true, false, true, true, false, false, false] rfl rfl (by kernel_rfl) (fun _ _ _ h => h) (Or.inl ⟨by rfl, ?_⟩) hHeld ?_ ?_
                                        rotate_left
                                        · rintro w' ⟨s0, s1, s2⟩
                                          go_simp
                                          with_reducible rfl
                                        rotate_left
                                        · simp only [Act.put, List.setIfInBounds_toArray, List.set_cons_zero, List.set_cons_succ, i64_w, i32_w]
                                          rfl
                                        refine join_ (σ := Value) 2 #[true, true, true, true, true, false, false] (fun s_ => [(84, .int .u32 t137), (87, s_)]) (fun s_ w' => (w'.cell? ⟨gb129, 0, none⟩ = some (.int .i64 (wrap64 (bt (a0.extract (a1 : Int).toNat a0.size) 2))) ∧ w'.cell? ⟨gb129, 1, none⟩ = some (.int .u64 t128) ∧ w'.cell? ⟨gb129, 2, none⟩ = some (.string ((a0.extract (a1 : Int).toNat a0.size).extract 24 ((wrap64 (24 + (wrap64 (t130)))) : Int).toNat))) ∧ (Kd.R Kd.string 9 w' w.heap.size (fun _ => True) s_ y138) ∧ (w'.heap[gb127]? = some (.cells #[.int .i64 0, .int .u64 0, .string (⟨#[]⟩ : ByteArray)] 24 (0, 0))) ∧ (w'.heap[gb129]? = some (.cells #[.int .i64 (wrap64 (bt (a0.extract (a1 : Int).toNat a0.size) 2)), .int .u64 t128, .string ((a0.extract (a1 : Int).toNat a0.size).extract 24 ((wrap64 (24 + (wrap64 (t130)))) : Int).toNat)] 24 (0, 0))) ∧ (Below w.heap.size w w')) ?_ ?_
                                        rotate_left
                                        · intro hCont
                                          refine two_ (i := 1) (j := 4) (Ni := some 84) (Nj := some 87) #[true, true, true, true, false, false, false] #[true, false, true, true, true, false, false] rfl rfl rfl rfl (by kernel_rfl) (by decide) (by decide) (fun K hK => ?_) (fun K hK => ?_)
                                          · skip
                                            refine goes_ Tryd.func49 (by kernel_rfl) rfl #[.string (a0.extract (a1 : Int).toNat a0.size), .int .i64 16] (by rfl) rfl rfl (by (try simp only [List.map_toArray, List.map_cons, List.map_nil]); first | done | rfl | (simp only [List.length_drop, List.length_take]; rfl)) ?_
                                            with_reducible refine (redo_word32.calls (a0.extract (a1 : Int).toNat a0.size) 16 t137 _ A50.out).mono ?_
                                            rintro e w' ⟨rfl, ⟨nd, rfl⟩⟩
                                            refine ⟨_, rfl, ?_⟩
                                            refine hK.out _ _ ⟨(blk_cell BK129.out 0).trans rfl, (blk_cell BK129.out 1).trans rfl, (blk_cell BK129.out 2).trans rfl⟩ (fun hHeld => ?_)
                                            clear hK K
                                            refine norm_ (a' := ?_) ?_ ?_
                                            rotate_left
                                            · show Act.put _ (some 84) _ = _
                                              simp only [Act.put, List.setIfInBounds_toArray, List.set_cons_zero, List.set_cons_succ, i64_w, i32_w]
                                              rfl
                                            refine one_ (i := 4) (N := some 87) #[true, true, true, true, true, false, false] rfl rfl (by kernel_rfl) (by decide) (fun K hK => ?_)
                                            refine Kd.R_lit_step Kd.string _ 9 ?hg (N := 87) ?hd (xs := ([(a0.extract (a1 : Int).toNat a0.size).extract 24 ((wrap64 (24 + (wrap64 (t130)))) : Int).toNat] : List ByteArray)) (inner := [.string ((a0.extract (a1 : Int).toNat a0.size).extract 24 ((wrap64 (24 + (wrap64 (t130)))) : Int).toNat)]) (ok := fun _ => True) (okp := fun _ => True) ?hr ?hp (fun _ hk => hk) trivial (Below.refl _ _) (Nat.le_refl _) (by simp) ?_; (case hd => rfl); (case hg => rfl); (case hr => first | (go_simp; done) | (go_simp; rfl)); (case hp => exact (Reps.one (show Kd.M Kd.string _ _ _ ((a0.extract (a1 : Int).toNat a0.size).extract 24 ((wrap64 (24 + (wrap64 (t130)))) : Int).toNat) [.string ((a0.extract (a1 : Int).toNat a0.size).extract 24 ((wrap64 (24 + (wrap64 (t130)))) : Int).toNat)] from rfl) (Reps.none _ _)))
                                            intro v139 w67 ho68 hb hg_ hnew_
                                            clear hg_ hnew_
                                            (first | rw [← Ny138.out] at ho68 | (simp only [Int.reduceToNat] at ho68; rw [← Ny138.out] at ho68))
                                            have n0_ := Aside0.mk (Kd.R_lower ho68 (below_size (by repeat (first | (with_reducible first | exact HB.out | apply below_alloc | apply pw_below_drewN | apply below_drew1 | refine below_set ?_ GE127.out | refine below_set ?_ GE129.out) | exact HB.out))))
                                            have n1_ := Aside0.mk (blk_below (g := gb127) (o := .cells #[.int .i64 0, .int .u64 0, .string (⟨#[]⟩ : ByteArray)] 24 (0, 0)) (by (with_reducible repeat (first | refine blk_drewN ?_ _ | refine blk_drew ?_ | refine blk_alloc ?_ _)); exact BK127.out) hb)
                                            have n2_ := Aside0.mk (blk_below (g := gb129) (o := .cells #[.int .i64 (wrap64 (bt (a0.extract (a1 : Int).toNat a0.size) 2)), .int .u64 t128, .string ((a0.extract (a1 : Int).toNat a0.size).extract 24 ((wrap64 (24 + (wrap64 (t130)))) : Int).toNat)] 24 (0, 0)) (by (with_reducible repeat (first | refine blk_drewN ?_ _ | refine blk_drew ?_ | refine blk_alloc ?_ _)); exact BK129.out) hb)
                                            have n3_ := Aside0.mk (below_step (by repeat (first | (with_reducible first | exact HB.out | apply below_alloc | apply pw_below_drewN | apply below_drew1 | refine below_set ?_ GE127.out | refine below_set ?_ GE129.out) | exact HB.out)) hb)
                                            clear BK127
                                            clear BK129
                                            clear HB
                                            have HO140 := n0_
                                            have BK127 := n1_
                                            have BK129 := n2_
                                            have HB := n3_
                                            clear n0_ n1_ n2_ n3_
                                            clear hb ho68
                                            refine hK.out _ _ ⟨(blk_cell BK129.out 0).trans rfl, (blk_cell BK129.out 1).trans rfl, (blk_cell BK129.out 2).trans rfl⟩ (fun hHeld => ?_)
                                            clear hK K
                                            refine norm_ (a' := ?_) ?_ ?_
                                            rotate_left
                                            · show Act.put _ (some 87) _ = _
                                              simp only [Act.put, List.setIfInBounds_toArray, List.set_cons_zero, List.set_cons_succ, i64_w, i32_w]
                                              rfl
                                            exact norm_ (by simp only [putAll, Act.put, List.setIfInBounds_toArray, List.set_cons_zero, List.set_cons_succ]) (hCont (v139) _ ⟨hHeld, (by (with_reducible repeat (first | apply Kd.R_alloc | apply Kd.R_drewN | apply Kd.R_drew)); exact HO140.out), (by (with_reducible repeat (first | refine blk_drewN ?_ _ | refine blk_drew ?_ | refine blk_alloc ?_ _)); exact BK127.out), (by (with_reducible repeat (first | refine blk_drewN ?_ _ | refine blk_drew ?_ | refine blk_alloc ?_ _)); exact BK129.out), (by repeat (first | (with_reducible first | exact HB.out | apply below_alloc | apply pw_below_drewN | apply below_drew1 | refine below_set ?_ GE127.out | refine below_set ?_ GE129.out) | exact HB.out))⟩)
                                          · skip
                                            refine Kd.R_lit_step Kd.string _ 9 ?hg (N := 87) ?hd (xs := ([(a0.extract (a1 : Int).toNat a0.size).extract 24 ((wrap64 (24 + (wrap64 (t130)))) : Int).toNat] : List ByteArray)) (inner := [.string ((a0.extract (a1 : Int).toNat a0.size).extract 24 ((wrap64 (24 + (wrap64 (t130)))) : Int).toNat)]) (ok := fun _ => True) (okp := fun _ => True) ?hr ?hp (fun _ hk => hk) trivial (Below.refl _ _) (Nat.le_refl _) (by simp) ?_; (case hd => rfl); (case hg => rfl); (case hr => first | (go_simp; done) | (go_simp; rfl)); (case hp => exact (Reps.one (show Kd.M Kd.string _ _ _ ((a0.extract (a1 : Int).toNat a0.size).extract 24 ((wrap64 (24 + (wrap64 (t130)))) : Int).toNat) [.string ((a0.extract (a1 : Int).toNat a0.size).extract 24 ((wrap64 (24 + (wrap64 (t130)))) : Int).toNat)] from rfl) (Reps.none _ _)))
                                            intro v139 w67 ho68 hb hg_ hnew_
                                            clear hg_ hnew_
                                            (first | rw [← Ny138.out] at ho68 | (simp only [Int.reduceToNat] at ho68; rw [← Ny138.out] at ho68))
                                            have n0_ := Aside0.mk (Kd.R_lower ho68 (below_size (by repeat (first | (with_reducible first | exact HB.out | apply below_alloc | apply pw_below_drewN | apply below_drew1 | refine below_set ?_ GE127.out | refine below_set ?_ GE129.out) | exact HB.out))))
                                            have n1_ := Aside0.mk (blk_below (g := gb127) (o := .cells #[.int .i64 0, .int .u64 0, .string (⟨#[]⟩ : ByteArray)] 24 (0, 0)) (by (with_reducible repeat (first | refine blk_drewN ?_ _ | refine blk_drew ?_ | refine blk_alloc ?_ _)); exact BK127.out) hb)
                                            have n2_ := Aside0.mk (blk_below (g := gb129) (o := .cells #[.int .i64 (wrap64 (bt (a0.extract (a1 : Int).toNat a0.size) 2)), .int .u64 t128, .string ((a0.extract (a1 : Int).toNat a0.size).extract 24 ((wrap64 (24 + (wrap64 (t130)))) : Int).toNat)] 24 (0, 0)) (by (with_reducible repeat (first | refine blk_drewN ?_ _ | refine blk_drew ?_ | refine blk_alloc ?_ _)); exact BK129.out) hb)
                                            have n3_ := Aside0.mk (below_step (by repeat (first | (with_reducible first | exact HB.out | apply below_alloc | apply pw_below_drewN | apply below_drew1 | refine below_set ?_ GE127.out | refine below_set ?_ GE129.out) | exact HB.out)) hb)
                                            clear BK127
                                            clear BK129
                                            clear HB
                                            have HO140 := n0_
                                            have BK127 := n1_
                                            have BK129 := n2_
                                            have HB := n3_
                                            clear n0_ n1_ n2_ n3_
                                            clear hb ho68
                                            refine hK.out _ _ ⟨(blk_cell BK129.out 0).trans rfl, (blk_cell BK129.out 1).trans rfl, (blk_cell BK129.out 2).trans rfl⟩ (fun hHeld => ?_)
                                            clear hK K
                                            refine norm_ (a' := ?_) ?_ ?_
                                            rotate_left
                                            · show Act.put _ (some 87) _ = _
                                              simp only [Act.put, List.setIfInBounds_toArray, List.set_cons_zero, List.set_cons_succ, i64_w, i32_w]
                                              rfl
                                            refine one_ (i := 1) (N := some 84) #[true, true, true, true, true, false, false] rfl rfl (by kernel_rfl) (by decide) (fun K hK => ?_)
                                            refine goes_ Tryd.func49 (by kernel_rfl) rfl #[.string (a0.extract (a1 : Int).toNat a0.size), .int .i64 16] (by rfl) rfl rfl (by (try simp only [List.map_toArray, List.map_cons, List.map_nil]); first | done | rfl | (simp only [List.length_drop, List.length_take]; rfl)) ?_
                                            with_reducible refine (redo_word32.calls (a0.extract (a1 : Int).toNat a0.size) 16 t137 _ A50.out).mono ?_
                                            rintro e w' ⟨rfl, ⟨nd, rfl⟩⟩
                                            refine ⟨_, rfl, ?_⟩
                                            refine hK.out _ _ ⟨(blk_cell BK129.out 0).trans rfl, (blk_cell BK129.out 1).trans rfl, (blk_cell BK129.out 2).trans rfl⟩ (fun hHeld => ?_)
                                            clear hK K
                                            refine norm_ (a' := ?_) ?_ ?_
                                            rotate_left
                                            · show Act.put _ (some 84) _ = _
                                              simp only [Act.put, List.setIfInBounds_toArray, List.set_cons_zero, List.set_cons_succ, i64_w, i32_w]
                                              rfl
                                            exact norm_ (by simp only [putAll, Act.put, List.setIfInBounds_toArray, List.set_cons_zero, List.set_cons_succ]) (hCont (v139) _ ⟨hHeld, (by (with_reducible repeat (first | apply Kd.R_alloc | apply Kd.R_drewN | apply Kd.R_drew)); exact HO140.out), (by (with_reducible repeat (first | refine blk_drewN ?_ _ | refine blk_drew ?_ | refine blk_alloc ?_ _)); exact BK127.out), (by (with_reducible repeat (first | refine blk_drewN ?_ _ | refine blk_drew ?_ | refine blk_alloc ?_ _)); exact BK129.out), (by repeat (first | (with_reducible first | exact HB.out | apply below_alloc | apply pw_below_drewN | apply below_drew1 | refine below_set ?_ GE127.out | refine below_set ?_ GE129.out) | exact HB.out))⟩)
                                        rintro v139 w69 ⟨hS_, h0_, h1_, h2_, h3_⟩
                                        have n0_ : Aside0 (Kd.R Kd.string 9 w69 w.heap.size (fun _ => True) v139 y138) := ⟨h0_⟩
                                        have n1_ : Aside0 (w69.heap[gb127]? = some (.cells #[.int .i64 0, .int .u64 0, .string (⟨#[]⟩ : ByteArray)] 24 (0, 0))) := ⟨h1_⟩
                                        have n2_ : Aside0 (w69.heap[gb129]? = some (.cells #[.int .i64 (wrap64 (bt (a0.extract (a1 : Int).toNat a0.size) 2)), .int .u64 t128, .string ((a0.extract (a1 : Int).toNat a0.size).extract 24 ((wrap64 (24 + (wrap64 (t130)))) : Int).toNat)] 24 (0, 0))) := ⟨h2_⟩
                                        have n3_ : Aside0 (Below w.heap.size w w69) := ⟨h3_⟩
                                        clear BK127
                                        clear BK129
                                        clear HB
                                        clear h0_ h1_ h2_ h3_
                                        have HO140 := n0_
                                        have BK127 := n1_
                                        have BK129 := n2_
                                        have HB := n3_
                                        clear n0_ n1_ n2_ n3_
                                        have hHeld : w69.cell? ⟨gb129, 0, none⟩ = some (.int .i64 (wrap64 (bt (a0.extract (a1 : Int).toNat a0.size) 2))) ∧ w69.cell? ⟨gb129, 1, none⟩ = some (.int .u64 t128) ∧ w69.cell? ⟨gb129, 2, none⟩ = some (.string ((a0.extract (a1 : Int).toNat a0.size).extract 24 ((wrap64 (24 + (wrap64 (t130)))) : Int).toNat)) := hS_
                                        obtain ⟨Ao70, co70, eo70⟩ := Kd.R_slice HO140.out
                                        (first | subst eo70 | (injection eo70 with f1_ f2_ f3_; have f4_ := f1_.symm; have f5_ := f3_.symm; clear f1_ f2_ f3_; subst f4_; subst f5_))
                                        refine norm_ (a' := ?_) ?_ ?_
                                        rotate_left
                                        · simp only [putAll, Act.put, List.setIfInBounds_toArray, List.set_cons_zero, List.set_cons_succ]
                                          rfl
                                        refine one_ (i := 5) (N := some 88) #[true, true, true, true, true, true, false] rfl rfl (by kernel_rfl) (by decide) (fun K hK => ?_)
                                        refine goes_ Tryd.func42 (by kernel_rfl) rfl #[.slice Ao70 y138.length co70] (by rfl) rfl rfl (by (try simp only [List.map_toArray, List.map_cons, List.map_nil]); first | done | rfl | (simp only [List.length_drop, List.length_take]; rfl)) ?_
                                        with_reducible refine (bits_Checksum.calls kj22 _ _ y138 t141 _ ?side1 ?side2 A51.out (by first | exact hT | exact hT.drewN _ | exact Tab.below hT (by repeat (first | (with_reducible first | exact HB.out | apply below_alloc | apply pw_below_drewN | apply below_drew1) | exact HB.out)))).mono ?_
                                        (case side1 => repeat (first | exact (Kd.R_reads' HO140.out).2.2 | (with_reducible refine Kd.C_alloc ?_ _) | (with_reducible refine Kd.C_drewN ?_ _) | (with_reducible refine Kd.C_drew ?_)))
                                        (case side2 => exact (Kd.R_reads' HO140.out).2.1)
                                        rintro e w' ⟨rfl, ⟨nd, rfl⟩⟩
                                        refine ⟨_, rfl, ?_⟩
                                        refine hK.out _ _ ⟨(blk_cell BK129.out 0).trans rfl, (blk_cell BK129.out 1).trans rfl, (blk_cell BK129.out 2).trans rfl⟩ (fun hHeld => ?_)
                                        clear hK K
                                        refine norm_ (a' := ?_) ?_ ?_
                                        rotate_left
                                        · show Act.put _ (some 88) _ = _
                                          simp only [Act.put, List.setIfInBounds_toArray, List.set_cons_zero, List.set_cons_succ, i64_w, i32_w]
                                          rfl
                                        refine pure_ (i := 6) (N := some 89) (v := ?_) (a' := ?_) #[true, true, true, true, true, true, true] rfl rfl (by kernel_rfl) (fun _ _ _ h => h) (Or.inl ⟨by rfl, ?_⟩) ?_ ?_
                                        rotate_left
                                        · intro w'
                                          go_simp
                                          with_reducible rfl
                                        rotate_left
                                        · simp only [Act.put, List.setIfInBounds_toArray, List.set_cons_zero, List.set_cons_succ, i64_w, i32_w]
                                          rfl
                                        refine done_ (by kernel_rfl) ?_
                                        have hcz71_0 : w69.cell? ⟨gb127, 0, none⟩ = some (.int .i64 0) := (blk_cell BK127.out 0).trans rfl
                                        have hcz71_1 : w69.cell? ⟨gb127, 1, none⟩ = some (.int .u64 0) := (blk_cell BK127.out 1).trans rfl
                                        have hcz71_2 : w69.cell? ⟨gb127, 2, none⟩ = some (.string (⟨#[]⟩ : ByteArray)) := (blk_cell BK127.out 2).trans rfl
                                        have hfz71_0 := blk_frozen BK127.out 0
                                        have hfz71_1 := blk_frozen BK127.out 1
                                        have hfz71_2 := blk_frozen BK127.out 2
                                        try go_wp2
                                        refine bodyPost_ret (results_ctt rfl _ _ gb127 24 #[.int .i64 0, .int .u64 0, .string (⟨#[]⟩ : ByteArray)] (0, 0) _ rfl (by (with_reducible repeat (first | refine blk_drewN ?_ _ | refine blk_drew ?_ | refine blk_alloc ?_ _)); refine blk_put (cs := #[.int .i64 0, .int .u64 0, .string (⟨#[]⟩ : ByteArray)]) ?_ 2 _ rfl; (with_reducible repeat (first | refine blk_drewN ?_ _ | refine blk_drew ?_ | refine blk_alloc ?_ _)); refine blk_put (cs := #[.int .i64 0, .int .u64 0, .string (⟨#[]⟩ : ByteArray)]) ?_ 1 _ rfl; (with_reducible repeat (first | refine blk_drewN ?_ _ | refine blk_drew ?_ | refine blk_alloc ?_ _)); refine blk_put (cs := #[.int .i64 0, .int .u64 0, .string (⟨#[]⟩ : ByteArray)]) ?_ 0 _ rfl; (with_reducible repeat (first | refine blk_drewN ?_ _ | refine blk_drew ?_ | refine blk_alloc ?_ _)); exact BK127.out) Tryd.underlying24 rfl (by kernel_rfl)) rfl ?_
                                        exact ⟨by first | rfl | (simp [errW_none, errW_some] <;> rfl) | (simp [*, errW_none, errW_some] <;> rfl), by repeat (first | (with_reducible first | exact HB.out | apply below_alloc | apply pw_below_drewN | apply below_drew1 | refine below_set ?_ GE127.out | refine below_set ?_ GE129.out) | exact HB.out)⟩
                                    · rw [if_neg c49] at H
                                      exact absurd H (by simp)
                                  · rw [if_neg c48] at H
                                    exact absurd H (by simp)
                        · rw [if_neg c22] at H
                          have c22b0 : (t131 == t135) = false := beq_eq_false_iff_ne.mpr c22
                          have c22b1 : (t131 != t135) = true := bne_iff_ne.mpr c22
                          simp only [Option.some.injEq, Prod.mk.injEq] at H
                          obtain ⟨rfl, rfl, rfl, rfl, rfl⟩ := H
                          try go_wp2
                          have n0_ := Aside0.mk (blk_drew BK127.out)
                          have n1_ := Aside0.mk (below_drew1 HB.out)
                          clear BK127
                          clear HB
                          have BK127 := n0_
                          have HB := n1_
                          clear n0_ n1_
                          have p12 : 0 ≤ (2 : Int) := (by omega)
                          have q12 : 2 < (a0.extract (a1 : Int).toNat a0.size).size := (by have : (2 : Int) < ((a0.extract (a1 : Int).toNat a0.size).size : Int) := of_decide_eq_true (by first | (with_reducible assumption) | assumption); omega)
                          have hx12 : ∀ h : 2 < (a0.extract (a1 : Int).toNat a0.size).size, (((a0.extract (a1 : Int).toNat a0.size)[2]'h).toNat : Int) = bt (a0.extract (a1 : Int).toNat a0.size) 2 := bt_at (a0.extract (a1 : Int).toNat a0.size) 2
                          clear p12
                          have qi12 : (2 < ((a0.extract (a1 : Int).toNat a0.size).size : Int)) = True := eq_true (of_decide_eq_true (by first | (with_reducible assumption) | assumption))
                          have qi12n4 : decide (2 < ((a0.size - (a1 : Int).toNat : Nat) : Int)) = true := by have h := decide_eq_true (of_eq_true qi12); rw [ByteArray.size_extract, Nat.min_self] at h; exact h -- fixfr
                          have qi12n5 : (2 < ((a0.size - (a1 : Int).toNat : Nat) : Int)) = True := eq_true (of_decide_eq_true qi12n4) -- fixfr
                          replace q12 := eq_true q12
                          refine start_ (n := 8) (S := fun w' => True) (ds := []) #[false, false, false, false, false, false, false, false] (by kernel_rfl) rfl rfl trivial (fun hHeld => ?_); refine with_tabW redo_DecodeFrame.tab4 redo_DecodeFrame.bits4 (fun HT_ HW_ => ?_)
                          generalize wc.drew = w72 at BK127 HB hHeld ⊢
                          refine pure_ (i := 0) (N := some 30) (v := ?_) (a' := ?_) #[true, false, false, false, false, false, false, false] rfl rfl (any_of HT_.out (by kernel_rfl)) (fun _ _ _ h => h) (Or.inl ⟨by rfl, ?_⟩) ?_ ?_
                          rotate_left
                          · intro w'
                            go_simp
                            with_reducible rfl
                          rotate_left
                          · simp only [Act.put, List.setIfInBounds_toArray, List.set_cons_zero, List.set_cons_succ, i64_w, i32_w]
                            rfl
                          refine pure_ (i := 3) (N := some 33) (v := ?_) (a' := ?_) #[true, false, false, true, false, false, false, false] rfl rfl (any_of HT_.out (by kernel_rfl)) (fun _ _ _ h => h) (Or.inl ⟨by rfl, ?_⟩) ?_ ?_
                          rotate_left
                          · intro w'
                            go_simp
                            with_reducible rfl
                          rotate_left
                          · simp only [Act.put, List.setIfInBounds_toArray, List.set_cons_zero, List.set_cons_succ, i64_w, i32_w]
                            rfl
                          refine take_ (i := 1) (N := some 31) (v := ?_) (a' := ?_) #[true, true, false, true, false, false, false, false] rfl rfl (take_ofW HT_.out HW_.out (by kernel_rfl)) (fun _ _ _ h => h) (Or.inl ⟨by rfl, ?_⟩) hHeld ?_ ?_
                          rotate_left
                          · intro w' _
                            go_simp
                            with_reducible rfl
                          rotate_left
                          · simp only [Act.put, List.setIfInBounds_toArray, List.set_cons_zero, List.set_cons_succ, i64_w, i32_w]
                            rfl
                          refine pure_ (i := 2) (N := some 32) (v := ?_) (a' := ?_) #[true, true, true, true, false, false, false, false] rfl rfl (any_of HT_.out (by kernel_rfl)) (fun _ _ _ h => h) (Or.inl ⟨by rfl, ?_⟩) ?_ ?_
                          rotate_left
                          · intro w'
                            go_simp
                            with_reducible rfl
                          rotate_left
                          · simp only [Act.put, List.setIfInBounds_toArray, List.set_cons_zero, List.set_cons_succ, i64_w, i32_w]
                            rfl
                          refine join_ (σ := Nat) 1 #[true, true, true, true, true, true, true, false] (fun s_ => [(34, .int .u64 t128), (8, .pointer (some ⟨s_, 0, none⟩)), (35, .agg #[.int .i64 (wrap64 (bt (a0.extract (a1 : Int).toNat a0.size) 2)), .int .u64 t128, .string (⟨#[]⟩ : ByteArray)])]) (fun s_ w' => (w'.heap[gb127]? = some (.cells #[.int .i64 0, .int .u64 0, .string (⟨#[]⟩ : ByteArray)] 24 (0, 0))) ∧ (w'.heap[s_]? = some (.cells #[.int .i64 0, .int .u64 0, .string (⟨#[]⟩ : ByteArray)] 24 (0, 0))) ∧ (w.heap.size ≤ s_) ∧ (w.heap.size ≤ s_) ∧ (gb127 ≠ s_) ∧ (s_ ≠ gb127) ∧ (Below w.heap.size w w')) ?_ ?_
                          rotate_left
                          · intro hCont
                            refine two_ (i := 4) (j := 6) (Ni := some 34) (Nj := some 8) #[true, true, true, true, true, false, false, false] #[true, true, true, true, false, false, true, false] rfl rfl rfl rfl (two_of HT_.out (by kernel_rfl)) (by decide) (by decide) (fun K hK => ?_) (fun K hK => ?_)
                            · skip
                              refine goes_ Tryd.func48 (by kernel_rfl) rfl #[.string (a0.extract (a1 : Int).toNat a0.size), .int .i64 8] (by rfl) rfl rfl (by (try simp only [List.map_toArray, List.map_cons, List.map_nil]); first | done | rfl | (simp only [List.length_drop, List.length_take]; rfl)) ?_
                              with_reducible refine (redo_word64.calls (a0.extract (a1 : Int).toNat a0.size) 8 t128 _ A13.out).mono ?_
                              rintro e w' ⟨rfl, ⟨nd, rfl⟩⟩
                              refine ⟨_, rfl, ?_⟩
                              refine hK.out _ _ trivial (fun hHeld => ?_)
                              clear hK K
                              refine norm_ (a' := ?_) ?_ ?_
                              rotate_left
                              · show Act.put _ (some 34) _ = _
                                simp only [Act.put, List.setIfInBounds_toArray, List.set_cons_zero, List.set_cons_succ, i64_w, i32_w]
                                rfl
                              refine pure_ (i := 5) (N := some 35) (v := ?_) (a' := ?_) #[true, true, true, true, true, true, false, false] rfl rfl (any_of HT_.out (by kernel_rfl)) (fun _ _ _ h => h) (Or.inl ⟨by rfl, ?_⟩) ?_ ?_
                              rotate_left
                              · intro w'
                                go_simp
                                with_reducible rfl
                              rotate_left
                              · simp only [Act.put, List.setIfInBounds_toArray, List.set_cons_zero, List.set_cons_succ, i64_w, i32_w]
                                rfl
                              refine one_ (i := 6) (N := some 8) #[true, true, true, true, true, true, true, false] rfl rfl (one_of HT_.out (by kernel_rfl)) (by decide) (fun K hK => ?_)
                              refine box_step ?hg (N := 8) ?hd (cs := #[.int .i64 0, .int .u64 0, .string (⟨#[]⟩ : ByteArray)]) (t := 24) ?hr ?_; (case hd => rfl); (case hg => rfl); (case hr => first | (go_simp; done) | (go_simp; rfl))
                              intro gb129 hg w73 hbox hb
                              have n0_ := Aside0.mk (blk_below (g := gb127) (o := .cells #[.int .i64 0, .int .u64 0, .string (⟨#[]⟩ : ByteArray)] 24 (0, 0)) (by (with_reducible repeat (first | refine blk_drewN ?_ _ | refine blk_drew ?_ | refine blk_alloc ?_ _)); exact BK127.out) hb)
                              have n1_ := Aside0.mk (below_step (by repeat (first | (with_reducible first | exact HB.out | apply below_alloc | apply pw_below_drewN | apply below_drew1 | refine below_set ?_ GE127.out) | exact HB.out)) hb)
                              have n2_ := Aside0.mk (hbox)
                              have n3_ := Aside0.mk ((by rw [hg]; exact (below_size (by repeat (first | (with_reducible first | exact HB.out | apply below_alloc | apply pw_below_drewN | apply below_drew1 | refine below_set ?_ GE127.out) | exact HB.out))) : w.heap.size ≤ gb129))
                              have n4_ := Aside0.mk ((by rw [hg]; exact (below_size (by repeat (first | (with_reducible first | exact HB.out | apply below_alloc | apply pw_below_drewN | apply below_drew1 | refine below_set ?_ GE127.out) | exact HB.out))) : w.heap.size ≤ gb129))
                              have n5_ := Aside0.mk ((by rw [hg]; exact Nat.ne_of_lt (blk_lt (g := gb127) (o := .cells #[.int .i64 0, .int .u64 0, .string (⟨#[]⟩ : ByteArray)] 24 (0, 0)) (by (with_reducible repeat (first | refine blk_drewN ?_ _ | refine blk_drew ?_ | refine blk_alloc ?_ _)); exact BK127.out)) : gb127 ≠ gb129))
                              have n6_ := Aside0.mk ((by rw [hg]; exact Nat.ne_of_gt (blk_lt (g := gb127) (o := .cells #[.int .i64 0, .int .u64 0, .string (⟨#[]⟩ : ByteArray)] 24 (0, 0)) (by (with_reducible repeat (first | refine blk_drewN ?_ _ | refine blk_drew ?_ | refine blk_alloc ?_ _)); exact BK127.out)) : gb129 ≠ gb127))
                              clear BK127
                              clear HB
                              have BK127 := n0_
                              have HB := n1_
                              have BK129 := n2_
                              have GW129 := n3_
                              have GE129 := n4_
                              have NB127_129 := n5_
                              have NB129_127 := n6_
                              clear n0_ n1_ n2_ n3_ n4_ n5_ n6_
                              clear hb hbox hg
                              refine hK.out _ _ trivial (fun hHeld => ?_)
                              clear hK K
                              refine norm_ (a' := ?_) ?_ ?_
                              rotate_left
                              · show Act.put _ (some 8) _ = _
                                simp only [Act.put, List.setIfInBounds_toArray, List.set_cons_zero, List.set_cons_succ, i64_w, i32_w]
                                rfl
                              exact norm_ (by simp only [putAll, Act.put, List.setIfInBounds_toArray, List.set_cons_zero, List.set_cons_succ]) (hCont (gb129) _ ⟨(by (with_reducible repeat (first | refine blk_drewN ?_ _ | refine blk_drew ?_ | refine blk_alloc ?_ _)); exact BK127.out), (by (with_reducible repeat (first | refine blk_drewN ?_ _ | refine blk_drew ?_ | refine blk_alloc ?_ _)); exact BK129.out), GW129.out, GE129.out, NB127_129.out, NB129_127.out, (by repeat (first | (with_reducible first | exact HB.out | apply below_alloc | apply pw_below_drewN | apply below_drew1 | refine below_set ?_ GE127.out | refine below_set ?_ GE129.out) | exact HB.out))⟩)
                            · skip
                              refine box_step ?hg (N := 8) ?hd (cs := #[.int .i64 0, .int .u64 0, .string (⟨#[]⟩ : ByteArray)]) (t := 24) ?hr ?_; (case hd => rfl); (case hg => rfl); (case hr => first | (go_simp; done) | (go_simp; rfl))
                              intro gb129 hg w73 hbox hb
                              have n0_ := Aside0.mk (blk_below (g := gb127) (o := .cells #[.int .i64 0, .int .u64 0, .string (⟨#[]⟩ : ByteArray)] 24 (0, 0)) (by (with_reducible repeat (first | refine blk_drewN ?_ _ | refine blk_drew ?_ | refine blk_alloc ?_ _)); exact BK127.out) hb)
                              have n1_ := Aside0.mk (below_step (by repeat (first | (with_reducible first | exact HB.out | apply below_alloc | apply pw_below_drewN | apply below_drew1 | refine below_set ?_ GE127.out) | exact HB.out)) hb)
                              have n2_ := Aside0.mk (hbox)
                              have n3_ := Aside0.mk ((by rw [hg]; exact (below_size (by repeat (first | (with_reducible first | exact HB.out | apply below_alloc | apply pw_below_drewN | apply below_drew1 | refine below_set ?_ GE127.out) | exact HB.out))) : w.heap.size ≤ gb129))
                              have n4_ := Aside0.mk ((by rw [hg]; exact (below_size (by repeat (first | (with_reducible first | exact HB.out | apply below_alloc | apply pw_below_drewN | apply below_drew1 | refine below_set ?_ GE127.out) | exact HB.out))) : w.heap.size ≤ gb129))
                              have n5_ := Aside0.mk ((by rw [hg]; exact Nat.ne_of_lt (blk_lt (g := gb127) (o := .cells #[.int .i64 0, .int .u64 0, .string (⟨#[]⟩ : ByteArray)] 24 (0, 0)) (by (with_reducible repeat (first | refine blk_drewN ?_ _ | refine blk_drew ?_ | refine blk_alloc ?_ _)); exact BK127.out)) : gb127 ≠ gb129))
                              have n6_ := Aside0.mk ((by rw [hg]; exact Nat.ne_of_gt (blk_lt (g := gb127) (o := .cells #[.int .i64 0, .int .u64 0, .string (⟨#[]⟩ : ByteArray)] 24 (0, 0)) (by (with_reducible repeat (first | refine blk_drewN ?_ _ | refine blk_drew ?_ | refine blk_alloc ?_ _)); exact BK127.out)) : gb129 ≠ gb127))
                              clear BK127
                              clear HB
                              have BK127 := n0_
                              have HB := n1_
                              have BK129 := n2_
                              have GW129 := n3_
                              have GE129 := n4_
                              have NB127_129 := n5_
                              have NB129_127 := n6_
                              clear n0_ n1_ n2_ n3_ n4_ n5_ n6_
                              clear hb hbox hg
                              refine hK.out _ _ trivial (fun hHeld => ?_)
                              clear hK K
                              refine norm_ (a' := ?_) ?_ ?_
                              rotate_left
                              · show Act.put _ (some 8) _ = _
                                simp only [Act.put, List.setIfInBounds_toArray, List.set_cons_zero, List.set_cons_succ, i64_w, i32_w]
                                rfl
                              refine one_ (i := 4) (N := some 34) #[true, true, true, true, true, false, true, false] rfl rfl (one_of HT_.out (by kernel_rfl)) (by decide) (fun K hK => ?_)
                              refine goes_ Tryd.func48 (by kernel_rfl) rfl #[.string (a0.extract (a1 : Int).toNat a0.size), .int .i64 8] (by rfl) rfl rfl (by (try simp only [List.map_toArray, List.map_cons, List.map_nil]); first | done | rfl | (simp only [List.length_drop, List.length_take]; rfl)) ?_
                              with_reducible refine (redo_word64.calls (a0.extract (a1 : Int).toNat a0.size) 8 t128 _ A13.out).mono ?_
                              rintro e w' ⟨rfl, ⟨nd, rfl⟩⟩
                              refine ⟨_, rfl, ?_⟩
                              refine hK.out _ _ trivial (fun hHeld => ?_)
                              clear hK K
                              refine norm_ (a' := ?_) ?_ ?_
                              rotate_left
                              · show Act.put _ (some 34) _ = _
                                simp only [Act.put, List.setIfInBounds_toArray, List.set_cons_zero, List.set_cons_succ, i64_w, i32_w]
                                rfl
                              refine pure_ (i := 5) (N := some 35) (v := ?_) (a' := ?_) #[true, true, true, true, true, true, true, false] rfl rfl (any_of HT_.out (by kernel_rfl)) (fun _ _ _ h => h) (Or.inl ⟨by rfl, ?_⟩) ?_ ?_
                              rotate_left
                              · intro w'
                                go_simp
                                with_reducible rfl
                              rotate_left
                              · simp only [Act.put, List.setIfInBounds_toArray, List.set_cons_zero, List.set_cons_succ, i64_w, i32_w]
                                rfl
                              exact norm_ (by simp only [putAll, Act.put, List.setIfInBounds_toArray, List.set_cons_zero, List.set_cons_succ]) (hCont (gb129) _ ⟨(by (with_reducible repeat (first | refine blk_drewN ?_ _ | refine blk_drew ?_ | refine blk_alloc ?_ _)); exact BK127.out), (by (with_reducible repeat (first | refine blk_drewN ?_ _ | refine blk_drew ?_ | refine blk_alloc ?_ _)); exact BK129.out), GW129.out, GE129.out, NB127_129.out, NB129_127.out, (by repeat (first | (with_reducible first | exact HB.out | apply below_alloc | apply pw_below_drewN | apply below_drew1 | refine below_set ?_ GE127.out | refine below_set ?_ GE129.out) | exact HB.out))⟩)
                          rintro gb129 w74 ⟨h0_, h1_, h2_, h3_, h4_, h5_, h6_⟩
                          have n0_ : Aside0 (w74.heap[gb127]? = some (.cells #[.int .i64 0, .int .u64 0, .string (⟨#[]⟩ : ByteArray)] 24 (0, 0))) := ⟨h0_⟩
                          have n1_ : Aside0 (w74.heap[gb129]? = some (.cells #[.int .i64 0, .int .u64 0, .string (⟨#[]⟩ : ByteArray)] 24 (0, 0))) := ⟨h1_⟩
                          have n2_ : Aside0 (w.heap.size ≤ gb129) := ⟨h2_⟩
                          have n3_ : Aside0 (w.heap.size ≤ gb129) := ⟨h3_⟩
                          have n4_ : Aside0 (gb127 ≠ gb129) := ⟨h4_⟩
                          have n5_ : Aside0 (gb129 ≠ gb127) := ⟨h5_⟩
                          have n6_ : Aside0 (Below w.heap.size w w74) := ⟨h6_⟩
                          clear BK127
                          clear HB
                          clear h0_ h1_ h2_ h3_ h4_ h5_ h6_
                          have BK127 := n0_
                          have BK129 := n1_
                          have GW129 := n2_
                          have GE129 := n3_
                          have NB127_129 := n4_
                          have NB129_127 := n5_
                          have HB := n6_
                          clear n0_ n1_ n2_ n3_ n4_ n5_ n6_
                          have hHeld := trivial
                          refine norm_ (a' := ?_) ?_ ?_
                          rotate_left
                          · simp only [putAll, Act.put, List.setIfInBounds_toArray, List.set_cons_zero, List.set_cons_succ]
                            rfl
                          refine one_ (i := 7) (N := none) #[true, true, true, true, true, true, true, true] rfl rfl (one_of HT_.out (by kernel_rfl)) (by decide) (fun K hK => ?_)
                          have hs75 : w74.cell? ⟨gb129, 0, none⟩ = some (.int .i64 0) := (blk_cell BK129.out 0).trans rfl
                          have hfs75 := blk_frozen BK129.out 0
                          have hns75_0 := NB127_129.out
                          have hms75_0 := NB129_127.out
                          have hs76 : w74.cell? ⟨gb129, 1, none⟩ = some (.int .u64 0) := (blk_cell BK129.out 1).trans rfl
                          have hfs76 := blk_frozen BK129.out 1
                          have hns76_0 := NB127_129.out
                          have hms76_0 := NB129_127.out
                          have hs77 : w74.cell? ⟨gb129, 2, none⟩ = some (.string (⟨#[]⟩ : ByteArray)) := (blk_cell BK129.out 2).trans rfl
                          have hfs77 := blk_frozen BK129.out 2
                          have hns77_0 := NB127_129.out
                          have hms77_0 := NB129_127.out
                          refine skip_ (w1 := ?_) (by rfl) rfl ?_ ?_
                          rotate_left
                          · go_simp
                            rfl
                          refine hK.out _ _ trivial (fun hHeld => ?_)
                          clear hK K
                          refine done_ (done_of HT_.out (by kernel_rfl)) ?_
                          try go_wp2_with (first | ((with_reducible refine gate_callee (f := 49) rfl ?_); refine goesL_ (some 37) rfl rfl Tryd.func49 (by kernel_rfl) rfl #[.string (a0.extract (a1 : Int).toNat a0.size), .int .i64 4] rfl (by (try simp only [List.map_toArray, List.map_cons, List.map_nil]); first | done | rfl | (simp only [List.length_drop, List.length_take]; rfl)) ?_; (with_reducible refine (redo_word32.calls (a0.extract (a1 : Int).toNat a0.size) 4 t130 _ A14.out).mono ?_); rintro e w' ⟨rfl, ⟨nd, rfl⟩⟩; refine ⟨_, rfl, ?_⟩))
                          have n0_ : Aside0 ((((w74.setCell ⟨gb129, 0, none⟩ (.int .i64 (wrap64 (bt (a0.extract (a1 : Int).toNat a0.size) 2)))).setCell ⟨gb129, 1, none⟩ (.int .u64 t128)).setCell ⟨gb129, 2, none⟩ (.string (⟨#[]⟩ : ByteArray))).heap[gb127]? = some (.cells #[.int .i64 0, .int .u64 0, .string (⟨#[]⟩ : ByteArray)] 24 (0, 0))) := ⟨by (with_reducible repeat (first | refine blk_drewN ?_ _ | refine blk_drew ?_ | refine blk_alloc ?_ _)); refine blk_far ?_ NB127_129.out _; (with_reducible repeat (first | refine blk_drewN ?_ _ | refine blk_drew ?_ | refine blk_alloc ?_ _)); refine blk_far ?_ NB127_129.out _; (with_reducible repeat (first | refine blk_drewN ?_ _ | refine blk_drew ?_ | refine blk_alloc ?_ _)); refine blk_far ?_ NB127_129.out _; (with_reducible repeat (first | refine blk_drewN ?_ _ | refine blk_drew ?_ | refine blk_alloc ?_ _)); exact BK127.out⟩
                          have n1_ : Aside0 ((((w74.setCell ⟨gb129, 0, none⟩ (.int .i64 (wrap64 (bt (a0.extract (a1 : Int).toNat a0.size) 2)))).setCell ⟨gb129, 1, none⟩ (.int .u64 t128)).setCell ⟨gb129, 2, none⟩ (.string (⟨#[]⟩ : ByteArray))).heap[gb129]? = some (.cells #[.int .i64 (wrap64 (bt (a0.extract (a1 : Int).toNat a0.size) 2)), .int .u64 t128, .string (⟨#[]⟩ : ByteArray)] 24 (0, 0))) := ⟨by (with_reducible repeat (first | refine blk_drewN ?_ _ | refine blk_drew ?_ | refine blk_alloc ?_ _)); refine blk_put (cs := #[.int .i64 (wrap64 (bt (a0.extract (a1 : Int).toNat a0.size) 2)), .int .u64 t128, .string (⟨#[]⟩ : ByteArray)]) ?_ 2 _ rfl; (with_reducible repeat (first | refine blk_drewN ?_ _ | refine blk_drew ?_ | refine blk_alloc ?_ _)); refine blk_put (cs := #[.int .i64 (wrap64 (bt (a0.extract (a1 : Int).toNat a0.size) 2)), .int .u64 0, .string (⟨#[]⟩ : ByteArray)]) ?_ 1 _ rfl; (with_reducible repeat (first | refine blk_drewN ?_ _ | refine blk_drew ?_ | refine blk_alloc ?_ _)); refine blk_put (cs := #[.int .i64 0, .int .u64 0, .string (⟨#[]⟩ : ByteArray)]) ?_ 0 _ rfl; (with_reducible repeat (first | refine blk_drewN ?_ _ | refine blk_drew ?_ | refine blk_alloc ?_ _)); exact BK129.out⟩
                          have n2_ : Aside0 (Below w.heap.size w (((w74.setCell ⟨gb129, 0, none⟩ (.int .i64 (wrap64 (bt (a0.extract (a1 : Int).toNat a0.size) 2)))).setCell ⟨gb129, 1, none⟩ (.int .u64 t128)).setCell ⟨gb129, 2, none⟩ (.string (⟨#[]⟩ : ByteArray)))) := ⟨by repeat (first | (with_reducible first | exact HB.out | apply below_alloc | apply pw_below_drewN | apply below_drew1 | refine below_set ?_ GE127.out | refine below_set ?_ GE129.out) | exact HB.out)⟩
                          (try clear BK127)
                          (try clear BK129)
                          (try clear HB)
                          generalize (((w74.setCell ⟨gb129, 0, none⟩ (.int .i64 (wrap64 (bt (a0.extract (a1 : Int).toNat a0.size) 2)))).setCell ⟨gb129, 1, none⟩ (.int .u64 t128)).setCell ⟨gb129, 2, none⟩ (.string (⟨#[]⟩ : ByteArray))) = w78 at n0_ n1_ n2_ ⊢
                          have BK127 := n0_
                          have BK129 := n1_
                          have HB := n2_
                          clear n0_ n1_ n2_
                          (try (rw [drewN_self w78]; generalize hq_ : World.drewN w78 _ = w78; have n0_ : Aside0 (w78.heap[gb127]? = some (.cells #[.int .i64 0, .int .u64 0, .string (⟨#[]⟩ : ByteArray)] 24 (0, 0))) := ⟨by rw [← hq_]; exact (by (with_reducible repeat (first | refine blk_drewN ?_ _ | refine blk_drew ?_ | refine blk_alloc ?_ _)); exact BK127.out)⟩; have n1_ : Aside0 (w78.heap[gb129]? = some (.cells #[.int .i64 (wrap64 (bt (a0.extract (a1 : Int).toNat a0.size) 2)), .int .u64 t128, .string (⟨#[]⟩ : ByteArray)] 24 (0, 0))) := ⟨by rw [← hq_]; exact (by (with_reducible repeat (first | refine blk_drewN ?_ _ | refine blk_drew ?_ | refine blk_alloc ?_ _)); exact BK129.out)⟩; have n2_ : Aside0 (Below w.heap.size w w78) := ⟨by rw [← hq_]; exact (by repeat (first | (with_reducible first | exact HB.out | apply below_alloc | apply pw_below_drewN | apply below_drew1 | refine below_set ?_ GE127.out | refine below_set ?_ GE129.out) | exact HB.out))⟩; clear BK127 BK129 HB hq_; have BK127 := n0_; have BK129 := n1_; have HB := n2_; clear n0_ n1_ n2_))
                          have n0_ := Aside0.mk (blk_drew BK127.out)
                          have n1_ := Aside0.mk (blk_drew BK129.out)
                          have n2_ := Aside0.mk (below_drew1 HB.out)
                          clear BK127
                          clear BK129
                          clear HB
                          have BK127 := n0_
                          have BK129 := n1_
                          have HB := n2_
                          clear n0_ n1_ n2_
                          refine start_ (n := 8) (S := fun w' => True) (ds := []) #[false, false, false, false, false, false, false, false] (by kernel_rfl) rfl rfl trivial (fun hHeld => ?_); refine with_tabW redo_DecodeFrame.tab8 redo_DecodeFrame.bits8 (fun HT_ HW_ => ?_)
                          generalize w78.drew = w79 at BK127 BK129 HB hHeld ⊢
                          refine pure_ (i := 0) (N := some 46) (v := ?_) (a' := ?_) #[true, false, false, false, false, false, false, false] rfl rfl (any_of HT_.out (by kernel_rfl)) (fun _ _ _ h => h) (Or.inl ⟨by rfl, ?_⟩) ?_ ?_
                          rotate_left
                          · intro w'
                            go_simp
                            with_reducible rfl
                          rotate_left
                          · simp only [Act.put, List.setIfInBounds_toArray, List.set_cons_zero, List.set_cons_succ, i64_w, i32_w]
                            rfl
                          refine pure_ (i := 2) (N := some 48) (v := ?_) (a' := ?_) #[true, false, true, false, false, false, false, false] rfl rfl (any_of HT_.out (by kernel_rfl)) (fun _ _ _ h => h) (Or.inl ⟨by rfl, ?_⟩) ?_ ?_
                          rotate_left
                          · intro w'
                            go_simp
                            with_reducible rfl
                          rotate_left
                          · simp only [Act.put, List.setIfInBounds_toArray, List.set_cons_zero, List.set_cons_succ, i64_w, i32_w]
                            rfl
                          refine pure_ (i := 3) (N := some 49) (v := ?_) (a' := ?_) #[true, false, true, true, false, false, false, false] rfl rfl (any_of HT_.out (by kernel_rfl)) (fun _ _ _ h => h) (Or.inl ⟨by rfl, ?_⟩) ?_ ?_
                          rotate_left
                          · intro w'
                            go_simp
                            with_reducible rfl
                          rotate_left
                          · simp only [Act.put, List.setIfInBounds_toArray, List.set_cons_zero, List.set_cons_succ, i64_w, i32_w]
                            rfl
                          refine join_ (σ := Value) 3 #[true, true, true, true, true, false, false, false] (fun s_ => [(47, .int .u32 t131), (50, s_)]) (fun s_ w' => (Kd.R Kd.string 9 w' w.heap.size (fun _ => True) s_ y132) ∧ (w'.heap[gb127]? = some (.cells #[.int .i64 0, .int .u64 0, .string (⟨#[]⟩ : ByteArray)] 24 (0, 0))) ∧ (w'.heap[gb129]? = some (.cells #[.int .i64 (wrap64 (bt (a0.extract (a1 : Int).toNat a0.size) 2)), .int .u64 t128, .string (⟨#[]⟩ : ByteArray)] 24 (0, 0))) ∧ (Below w.heap.size w w')) ?_ ?_
                          rotate_left
                          · intro hCont
                            refine two_ (i := 1) (j := 4) (Ni := some 47) (Nj := some 50) #[true, true, true, true, false, false, false, false] #[true, false, true, true, true, false, false, false] rfl rfl rfl rfl (two_of HT_.out (by kernel_rfl)) (by decide) (by decide) (fun K hK => ?_) (fun K hK => ?_)
                            · skip
                              refine goes_ Tryd.func49 (by kernel_rfl) rfl #[.string (a0.extract (a1 : Int).toNat a0.size), .int .i64 20] (by rfl) rfl rfl (by (try simp only [List.map_toArray, List.map_cons, List.map_nil]); first | done | rfl | (simp only [List.length_drop, List.length_take]; rfl)) ?_
                              with_reducible refine (redo_word32.calls (a0.extract (a1 : Int).toNat a0.size) 20 t131 _ A18.out).mono ?_
                              rintro e w' ⟨rfl, ⟨nd, rfl⟩⟩
                              refine ⟨_, rfl, ?_⟩
                              refine hK.out _ _ trivial (fun hHeld => ?_)
                              clear hK K
                              refine norm_ (a' := ?_) ?_ ?_
                              rotate_left
                              · show Act.put _ (some 47) _ = _
                                simp only [Act.put, List.setIfInBounds_toArray, List.set_cons_zero, List.set_cons_succ, i64_w, i32_w]
                                rfl
                              refine one_ (i := 4) (N := some 50) #[true, true, true, true, true, false, false, false] rfl rfl (one_of HT_.out (by kernel_rfl)) (by decide) (fun K hK => ?_)
                              refine Kd.R_lit_step Kd.string _ 9 ?hg (N := 50) ?hd (xs := ([(a0.extract (a1 : Int).toNat a0.size).extract 0 20] : List ByteArray)) (inner := [.string ((a0.extract (a1 : Int).toNat a0.size).extract 0 20)]) (ok := fun _ => True) (okp := fun _ => True) ?hr ?hp (fun _ hk => hk) trivial (Below.refl _ _) (Nat.le_refl _) (by simp) ?_; (case hd => rfl); (case hg => rfl); (case hr => first | (go_simp; done) | (go_simp; rfl)); (case hp => exact (Reps.one (show Kd.M Kd.string _ _ _ ((a0.extract (a1 : Int).toNat a0.size).extract 0 20) [.string ((a0.extract (a1 : Int).toNat a0.size).extract 0 20)] from rfl) (Reps.none _ _)))
                              intro v133 w80 ho81 hb hg_ hnew_
                              clear hg_ hnew_
                              (first | rw [← Ny132.out] at ho81 | (simp only [Int.reduceToNat] at ho81; rw [← Ny132.out] at ho81))
                              have n0_ := Aside0.mk (Kd.R_lower ho81 (below_size (by repeat (first | (with_reducible first | exact HB.out | apply below_alloc | apply pw_below_drewN | apply below_drew1 | refine below_set ?_ GE127.out | refine below_set ?_ GE129.out) | exact HB.out))))
                              have n1_ := Aside0.mk (blk_below (g := gb127) (o := .cells #[.int .i64 0, .int .u64 0, .string (⟨#[]⟩ : ByteArray)] 24 (0, 0)) (by (with_reducible repeat (first | refine blk_drewN ?_ _ | refine blk_drew ?_ | refine blk_alloc ?_ _)); exact BK127.out) hb)
                              have n2_ := Aside0.mk (blk_below (g := gb129) (o := .cells #[.int .i64 (wrap64 (bt (a0.extract (a1 : Int).toNat a0.size) 2)), .int .u64 t128, .string (⟨#[]⟩ : ByteArray)] 24 (0, 0)) (by (with_reducible repeat (first | refine blk_drewN ?_ _ | refine blk_drew ?_ | refine blk_alloc ?_ _)); exact BK129.out) hb)
                              have n3_ := Aside0.mk (below_step (by repeat (first | (with_reducible first | exact HB.out | apply below_alloc | apply pw_below_drewN | apply below_drew1 | refine below_set ?_ GE127.out | refine below_set ?_ GE129.out) | exact HB.out)) hb)
                              clear BK127
                              clear BK129
                              clear HB
                              have HO134 := n0_
                              have BK127 := n1_
                              have BK129 := n2_
                              have HB := n3_
                              clear n0_ n1_ n2_ n3_
                              clear hb ho81
                              refine hK.out _ _ trivial (fun hHeld => ?_)
                              clear hK K
                              refine norm_ (a' := ?_) ?_ ?_
                              rotate_left
                              · show Act.put _ (some 50) _ = _
                                simp only [Act.put, List.setIfInBounds_toArray, List.set_cons_zero, List.set_cons_succ, i64_w, i32_w]
                                rfl
                              exact norm_ (by simp only [putAll, Act.put, List.setIfInBounds_toArray, List.set_cons_zero, List.set_cons_succ]) (hCont (v133) _ ⟨(by (with_reducible repeat (first | apply Kd.R_alloc | apply Kd.R_drewN | apply Kd.R_drew)); exact HO134.out), (by (with_reducible repeat (first | refine blk_drewN ?_ _ | refine blk_drew ?_ | refine blk_alloc ?_ _)); exact BK127.out), (by (with_reducible repeat (first | refine blk_drewN ?_ _ | refine blk_drew ?_ | refine blk_alloc ?_ _)); exact BK129.out), (by repeat (first | (with_reducible first | exact HB.out | apply below_alloc | apply pw_below_drewN | apply below_drew1 | refine below_set ?_ GE127.out | refine below_set ?_ GE129.out) | exact HB.out))⟩)
                            · skip
                              refine Kd.R_lit_step Kd.string _ 9 ?hg (N := 50) ?hd (xs := ([(a0.extract (a1 : Int).toNat a0.size).extract 0 20] : List ByteArray)) (inner := [.string ((a0.extract (a1 : Int).toNat a0.size).extract 0 20)]) (ok := fun _ => True) (okp := fun _ => True) ?hr ?hp (fun _ hk => hk) trivial (Below.refl _ _) (Nat.le_refl _) (by simp) ?_; (case hd => rfl); (case hg => rfl); (case hr => first | (go_simp; done) | (go_simp; rfl)); (case hp => exact (Reps.one (show Kd.M Kd.string _ _ _ ((a0.extract (a1 : Int).toNat a0.size).extract 0 20) [.string ((a0.extract (a1 : Int).toNat a0.size).extract 0 20)] from rfl) (Reps.none _ _)))
                              intro v133 w80 ho81 hb hg_ hnew_
                              clear hg_ hnew_
                              (first | rw [← Ny132.out] at ho81 | (simp only [Int.reduceToNat] at ho81; rw [← Ny132.out] at ho81))
                              have n0_ := Aside0.mk (Kd.R_lower ho81 (below_size (by repeat (first | (with_reducible first | exact HB.out | apply below_alloc | apply pw_below_drewN | apply below_drew1 | refine below_set ?_ GE127.out | refine below_set ?_ GE129.out) | exact HB.out))))
                              have n1_ := Aside0.mk (blk_below (g := gb127) (o := .cells #[.int .i64 0, .int .u64 0, .string (⟨#[]⟩ : ByteArray)] 24 (0, 0)) (by (with_reducible repeat (first | refine blk_drewN ?_ _ | refine blk_drew ?_ | refine blk_alloc ?_ _)); exact BK127.out) hb)
                              have n2_ := Aside0.mk (blk_below (g := gb129) (o := .cells #[.int .i64 (wrap64 (bt (a0.extract (a1 : Int).toNat a0.size) 2)), .int .u64 t128, .string (⟨#[]⟩ : ByteArray)] 24 (0, 0)) (by (with_reducible repeat (first | refine blk_drewN ?_ _ | refine blk_drew ?_ | refine blk_alloc ?_ _)); exact BK129.out) hb)
                              have n3_ := Aside0.mk (below_step (by repeat (first | (with_reducible first | exact HB.out | apply below_alloc | apply pw_below_drewN | apply below_drew1 | refine below_set ?_ GE127.out | refine below_set ?_ GE129.out) | exact HB.out)) hb)
                              clear BK127
                              clear BK129
                              clear HB
                              have HO134 := n0_
                              have BK127 := n1_
                              have BK129 := n2_
                              have HB := n3_
                              clear n0_ n1_ n2_ n3_
                              clear hb ho81
                              refine hK.out _ _ trivial (fun hHeld => ?_)
                              clear hK K
                              refine norm_ (a' := ?_) ?_ ?_
                              rotate_left
                              · show Act.put _ (some 50) _ = _
                                simp only [Act.put, List.setIfInBounds_toArray, List.set_cons_zero, List.set_cons_succ, i64_w, i32_w]
                                rfl
                              refine one_ (i := 1) (N := some 47) #[true, true, true, true, true, false, false, false] rfl rfl (one_of HT_.out (by kernel_rfl)) (by decide) (fun K hK => ?_)
                              refine goes_ Tryd.func49 (by kernel_rfl) rfl #[.string (a0.extract (a1 : Int).toNat a0.size), .int .i64 20] (by rfl) rfl rfl (by (try simp only [List.map_toArray, List.map_cons, List.map_nil]); first | done | rfl | (simp only [List.length_drop, List.length_take]; rfl)) ?_
                              with_reducible refine (redo_word32.calls (a0.extract (a1 : Int).toNat a0.size) 20 t131 _ A18.out).mono ?_
                              rintro e w' ⟨rfl, ⟨nd, rfl⟩⟩
                              refine ⟨_, rfl, ?_⟩
                              refine hK.out _ _ trivial (fun hHeld => ?_)
                              clear hK K
                              refine norm_ (a' := ?_) ?_ ?_
                              rotate_left
                              · show Act.put _ (some 47) _ = _
                                simp only [Act.put, List.setIfInBounds_toArray, List.set_cons_zero, List.set_cons_succ, i64_w, i32_w]
                                rfl
                              exact norm_ (by simp only [putAll, Act.put, List.setIfInBounds_toArray, List.set_cons_zero, List.set_cons_succ]) (hCont (v133) _ ⟨(by (with_reducible repeat (first | apply Kd.R_alloc | apply Kd.R_drewN | apply Kd.R_drew)); exact HO134.out), (by (with_reducible repeat (first | refine blk_drewN ?_ _ | refine blk_drew ?_ | refine blk_alloc ?_ _)); exact BK127.out), (by (with_reducible repeat (first | refine blk_drewN ?_ _ | refine blk_drew ?_ | refine blk_alloc ?_ _)); exact BK129.out), (by repeat (first | (with_reducible first | exact HB.out | apply below_alloc | apply pw_below_drewN | apply below_drew1 | refine below_set ?_ GE127.out | refine below_set ?_ GE129.out) | exact HB.out))⟩)
                          rintro v133 w82 ⟨h0_, h1_, h2_, h3_⟩
                          have n0_ : Aside0 (Kd.R Kd.string 9 w82 w.heap.size (fun _ => True) v133 y132) := ⟨h0_⟩
                          have n1_ : Aside0 (w82.heap[gb127]? = some (.cells #[.int .i64 0, .int .u64 0, .string (⟨#[]⟩ : ByteArray)] 24 (0, 0))) := ⟨h1_⟩
                          have n2_ : Aside0 (w82.heap[gb129]? = some (.cells #[.int .i64 (wrap64 (bt (a0.extract (a1 : Int).toNat a0.size) 2)), .int .u64 t128, .string (⟨#[]⟩ : ByteArray)] 24 (0, 0))) := ⟨h2_⟩
                          have n3_ : Aside0 (Below w.heap.size w w82) := ⟨h3_⟩
                          clear BK127
                          clear BK129
                          clear HB
                          clear h0_ h1_ h2_ h3_
                          have HO134 := n0_
                          have BK127 := n1_
                          have BK129 := n2_
                          have HB := n3_
                          clear n0_ n1_ n2_ n3_
                          have hHeld := trivial
                          obtain ⟨Ao83, co83, eo83⟩ := Kd.R_slice HO134.out
                          (first | subst eo83 | (injection eo83 with f1_ f2_ f3_; have f4_ := f1_.symm; have f5_ := f3_.symm; clear f1_ f2_ f3_; subst f4_; subst f5_))
                          refine norm_ (a' := ?_) ?_ ?_
                          rotate_left
                          · simp only [putAll, Act.put, List.setIfInBounds_toArray, List.set_cons_zero, List.set_cons_succ]
                            rfl
                          refine one_ (i := 5) (N := some 51) #[true, true, true, true, true, true, false, false] rfl rfl (one_of HT_.out (by kernel_rfl)) (by decide) (fun K hK => ?_)
                          refine goes_ Tryd.func42 (by kernel_rfl) rfl #[.slice Ao83 y132.length co83] (by rfl) rfl rfl (by (try simp only [List.map_toArray, List.map_cons, List.map_nil]); first | done | rfl | (simp only [List.length_drop, List.length_take]; rfl)) ?_
                          with_reducible refine (bits_Checksum.calls kj2 _ _ y132 t135 _ ?side1 ?side2 A21.out (by first | exact hT | exact hT.drewN _ | exact Tab.below hT (by repeat (first | (with_reducible first | exact HB.out | apply below_alloc | apply pw_below_drewN | apply below_drew1) | exact HB.out)))).mono ?_
                          (case side1 => repeat (first | exact (Kd.R_reads' HO134.out).2.2 | (with_reducible refine Kd.C_alloc ?_ _) | (with_reducible refine Kd.C_drewN ?_ _) | (with_reducible refine Kd.C_drew ?_)))
                          (case side2 => exact (Kd.R_reads' HO134.out).2.1)
                          rintro e w' ⟨rfl, ⟨nd, rfl⟩⟩
                          refine ⟨_, rfl, ?_⟩
                          refine hK.out _ _ trivial (fun hHeld => ?_)
                          clear hK K
                          refine norm_ (a' := ?_) ?_ ?_
                          rotate_left
                          · show Act.put _ (some 51) _ = _
                            simp only [Act.put, List.setIfInBounds_toArray, List.set_cons_zero, List.set_cons_succ, i64_w, i32_w]
                            rfl
                          refine pure_ (i := 6) (N := some 52) (v := ?_) (a' := ?_) #[true, true, true, true, true, true, true, false] rfl rfl (any_of HT_.out (by kernel_rfl)) (fun _ _ _ h => h) (Or.inl ⟨by rfl, ?_⟩) ?_ ?_
                          rotate_left
                          · intro w'
                            go_simp
                            with_reducible rfl
                          rotate_left
                          · simp only [Act.put, List.setIfInBounds_toArray, List.set_cons_zero, List.set_cons_succ, i64_w, i32_w]
                            rfl
                          refine pure_ (i := 7) (N := some 45) (v := ?_) (a' := ?_) #[true, true, true, true, true, true, true, true] rfl rfl (any_of HT_.out (by kernel_rfl)) (fun _ _ _ h => h) (Or.inl ⟨by rfl, ?_⟩) ?_ ?_
                          rotate_left
                          · intro w'
                            go_simp
                            with_reducible rfl
                          rotate_left
                          · simp only [Act.put, List.setIfInBounds_toArray, List.set_cons_zero, List.set_cons_succ, i64_w, i32_w]
                            rfl
                          refine done_ (done_of HT_.out (by kernel_rfl)) ?_
                          have hnb84 := NB127_129.out
                          have hnc84 := NB129_127.out
                          have hcz85_0 : w82.cell? ⟨gb127, 0, none⟩ = some (.int .i64 0) := (blk_cell BK127.out 0).trans rfl
                          have hcz85_1 : w82.cell? ⟨gb127, 1, none⟩ = some (.int .u64 0) := (blk_cell BK127.out 1).trans rfl
                          have hcz85_2 : w82.cell? ⟨gb127, 2, none⟩ = some (.string (⟨#[]⟩ : ByteArray)) := (blk_cell BK127.out 2).trans rfl
                          have hfz85_0 := blk_frozen BK127.out 0
                          have hfz85_1 := blk_frozen BK127.out 1
                          have hfz85_2 := blk_frozen BK127.out 2
                          try go_wp2
                          refine bodyPost_ret (results_ctt rfl _ _ gb127 24 #[.int .i64 0, .int .u64 0, .string (⟨#[]⟩ : ByteArray)] (0, 0) _ rfl (by (with_reducible repeat (first | refine blk_drewN ?_ _ | refine blk_drew ?_ | refine blk_alloc ?_ _)); refine blk_put (cs := #[.int .i64 0, .int .u64 0, .string (⟨#[]⟩ : ByteArray)]) ?_ 2 _ rfl; (with_reducible repeat (first | refine blk_drewN ?_ _ | refine blk_drew ?_ | refine blk_alloc ?_ _)); refine blk_put (cs := #[.int .i64 0, .int .u64 0, .string (⟨#[]⟩ : ByteArray)]) ?_ 1 _ rfl; (with_reducible repeat (first | refine blk_drewN ?_ _ | refine blk_drew ?_ | refine blk_alloc ?_ _)); refine blk_put (cs := #[.int .i64 0, .int .u64 0, .string (⟨#[]⟩ : ByteArray)]) ?_ 0 _ rfl; (with_reducible repeat (first | refine blk_drewN ?_ _ | refine blk_drew ?_ | refine blk_alloc ?_ _)); exact BK127.out) Tryd.underlying24 rfl (by kernel_rfl)) rfl ?_
                          exact ⟨by first | rfl | (simp [errW_none, errW_some] <;> rfl) | (simp [*, errW_none, errW_some] <;> rfl), by repeat (first | (with_reducible first | exact HB.out | apply below_alloc | apply pw_below_drewN | apply below_drew1 | refine below_set ?_ GE127.out | refine below_set ?_ GE129.out) | exact HB.out)⟩
                      · rw [if_neg c20] at H
                        exact absurd H (by simp)
                    · rw [if_neg c19] at H
                      exact absurd H (by simp)
                  · rw [if_neg c17] at H
                    have c17b0 : (((a0.extract (a1 : Int).toNat a0.size).extract 0 2).toList == ([83, 70] : List UInt8)) = false := beq_eq_false_iff_ne.mpr c17
                    have c17b1 : (((a0.extract (a1 : Int).toNat a0.size).extract 0 2).toList != ([83, 70] : List UInt8)) = true := bne_iff_ne.mpr c17
                    simp only [Option.some.injEq, Prod.mk.injEq] at H
                    obtain ⟨rfl, rfl, rfl, rfl, rfl⟩ := H
                    try go_wp2
                    have n0_ := Aside0.mk (blk_drew BK127.out)
                    have n1_ := Aside0.mk (below_drew1 HB.out)
                    clear BK127
                    clear HB
                    have BK127 := n0_
                    have HB := n1_
                    clear n0_ n1_
                    have p12 : 0 ≤ (2 : Int) := (by omega)
                    have q12 : 2 < (a0.extract (a1 : Int).toNat a0.size).size := (by have : (2 : Int) < ((a0.extract (a1 : Int).toNat a0.size).size : Int) := of_decide_eq_true (by first | (with_reducible assumption) | assumption); omega)
                    have hx12 : ∀ h : 2 < (a0.extract (a1 : Int).toNat a0.size).size, (((a0.extract (a1 : Int).toNat a0.size)[2]'h).toNat : Int) = bt (a0.extract (a1 : Int).toNat a0.size) 2 := bt_at (a0.extract (a1 : Int).toNat a0.size) 2
                    clear p12
                    have qi12 : (2 < ((a0.extract (a1 : Int).toNat a0.size).size : Int)) = True := eq_true (of_decide_eq_true (by first | (with_reducible assumption) | assumption))
                    have qi12n4 : decide (2 < ((a0.size - (a1 : Int).toNat : Nat) : Int)) = true := by have h := decide_eq_true (of_eq_true qi12); rw [ByteArray.size_extract, Nat.min_self] at h; exact h -- fixfr
                    have qi12n5 : (2 < ((a0.size - (a1 : Int).toNat : Nat) : Int)) = True := eq_true (of_decide_eq_true qi12n4) -- fixfr
                    replace q12 := eq_true q12
                    refine start_ (n := 8) (S := fun w' => True) (ds := []) #[false, false, false, false, false, false, false, false] (by kernel_rfl) rfl rfl trivial (fun hHeld => ?_); refine with_tabW redo_DecodeFrame.tab4 redo_DecodeFrame.bits4 (fun HT_ HW_ => ?_)
                    generalize wc.drew = w86 at BK127 HB hHeld ⊢
                    refine pure_ (i := 0) (N := some 30) (v := ?_) (a' := ?_) #[true, false, false, false, false, false, false, false] rfl rfl (any_of HT_.out (by kernel_rfl)) (fun _ _ _ h => h) (Or.inl ⟨by rfl, ?_⟩) ?_ ?_
                    rotate_left
                    · intro w'
                      go_simp
                      with_reducible rfl
                    rotate_left
                    · simp only [Act.put, List.setIfInBounds_toArray, List.set_cons_zero, List.set_cons_succ, i64_w, i32_w]
                      rfl
                    refine pure_ (i := 3) (N := some 33) (v := ?_) (a' := ?_) #[true, false, false, true, false, false, false, false] rfl rfl (any_of HT_.out (by kernel_rfl)) (fun _ _ _ h => h) (Or.inl ⟨by rfl, ?_⟩) ?_ ?_
                    rotate_left
                    · intro w'
                      go_simp
                      with_reducible rfl
                    rotate_left
                    · simp only [Act.put, List.setIfInBounds_toArray, List.set_cons_zero, List.set_cons_succ, i64_w, i32_w]
                      rfl
                    refine take_ (i := 1) (N := some 31) (v := ?_) (a' := ?_) #[true, true, false, true, false, false, false, false] rfl rfl (take_ofW HT_.out HW_.out (by kernel_rfl)) (fun _ _ _ h => h) (Or.inl ⟨by rfl, ?_⟩) hHeld ?_ ?_
                    rotate_left
                    · intro w' _
                      go_simp
                      with_reducible rfl
                    rotate_left
                    · simp only [Act.put, List.setIfInBounds_toArray, List.set_cons_zero, List.set_cons_succ, i64_w, i32_w]
                      rfl
                    refine pure_ (i := 2) (N := some 32) (v := ?_) (a' := ?_) #[true, true, true, true, false, false, false, false] rfl rfl (any_of HT_.out (by kernel_rfl)) (fun _ _ _ h => h) (Or.inl ⟨by rfl, ?_⟩) ?_ ?_
                    rotate_left
                    · intro w'
                      go_simp
                      with_reducible rfl
                    rotate_left
                    · simp only [Act.put, List.setIfInBounds_toArray, List.set_cons_zero, List.set_cons_succ, i64_w, i32_w]
                      rfl
                    refine join_ (σ := Nat) 1 #[true, true, true, true, true, true, true, false] (fun s_ => [(34, .int .u64 t128), (8, .pointer (some ⟨s_, 0, none⟩)), (35, .agg #[.int .i64 (wrap64 (bt (a0.extract (a1 : Int).toNat a0.size) 2)), .int .u64 t128, .string (⟨#[]⟩ : ByteArray)])]) (fun s_ w' => (w'.heap[gb127]? = some (.cells #[.int .i64 0, .int .u64 0, .string (⟨#[]⟩ : ByteArray)] 24 (0, 0))) ∧ (w'.heap[s_]? = some (.cells #[.int .i64 0, .int .u64 0, .string (⟨#[]⟩ : ByteArray)] 24 (0, 0))) ∧ (w.heap.size ≤ s_) ∧ (w.heap.size ≤ s_) ∧ (gb127 ≠ s_) ∧ (s_ ≠ gb127) ∧ (Below w.heap.size w w')) ?_ ?_
                    rotate_left
                    · intro hCont
                      refine two_ (i := 4) (j := 6) (Ni := some 34) (Nj := some 8) #[true, true, true, true, true, false, false, false] #[true, true, true, true, false, false, true, false] rfl rfl rfl rfl (two_of HT_.out (by kernel_rfl)) (by decide) (by decide) (fun K hK => ?_) (fun K hK => ?_)
                      · skip
                        refine goes_ Tryd.func48 (by kernel_rfl) rfl #[.string (a0.extract (a1 : Int).toNat a0.size), .int .i64 8] (by rfl) rfl rfl (by (try simp only [List.map_toArray, List.map_cons, List.map_nil]); first | done | rfl | (simp only [List.length_drop, List.length_take]; rfl)) ?_
                        with_reducible refine (redo_word64.calls (a0.extract (a1 : Int).toNat a0.size) 8 t128 _ A13.out).mono ?_
                        rintro e w' ⟨rfl, ⟨nd, rfl⟩⟩
                        refine ⟨_, rfl, ?_⟩
                        refine hK.out _ _ trivial (fun hHeld => ?_)
                        clear hK K
                        refine norm_ (a' := ?_) ?_ ?_
                        rotate_left
                        · show Act.put _ (some 34) _ = _
                          simp only [Act.put, List.setIfInBounds_toArray, List.set_cons_zero, List.set_cons_succ, i64_w, i32_w]
                          rfl
                        refine pure_ (i := 5) (N := some 35) (v := ?_) (a' := ?_) #[true, true, true, true, true, true, false, false] rfl rfl (any_of HT_.out (by kernel_rfl)) (fun _ _ _ h => h) (Or.inl ⟨by rfl, ?_⟩) ?_ ?_
                        rotate_left
                        · intro w'
                          go_simp
                          with_reducible rfl
                        rotate_left
                        · simp only [Act.put, List.setIfInBounds_toArray, List.set_cons_zero, List.set_cons_succ, i64_w, i32_w]
                          rfl
                        refine one_ (i := 6) (N := some 8) #[true, true, true, true, true, true, true, false] rfl rfl (one_of HT_.out (by kernel_rfl)) (by decide) (fun K hK => ?_)
                        refine box_step ?hg (N := 8) ?hd (cs := #[.int .i64 0, .int .u64 0, .string (⟨#[]⟩ : ByteArray)]) (t := 24) ?hr ?_; (case hd => rfl); (case hg => rfl); (case hr => first | (go_simp; done) | (go_simp; rfl))
                        intro gb129 hg w87 hbox hb
                        have n0_ := Aside0.mk (blk_below (g := gb127) (o := .cells #[.int .i64 0, .int .u64 0, .string (⟨#[]⟩ : ByteArray)] 24 (0, 0)) (by (with_reducible repeat (first | refine blk_drewN ?_ _ | refine blk_drew ?_ | refine blk_alloc ?_ _)); exact BK127.out) hb)
                        have n1_ := Aside0.mk (below_step (by repeat (first | (with_reducible first | exact HB.out | apply below_alloc | apply pw_below_drewN | apply below_drew1 | refine below_set ?_ GE127.out) | exact HB.out)) hb)
                        have n2_ := Aside0.mk (hbox)
                        have n3_ := Aside0.mk ((by rw [hg]; exact (below_size (by repeat (first | (with_reducible first | exact HB.out | apply below_alloc | apply pw_below_drewN | apply below_drew1 | refine below_set ?_ GE127.out) | exact HB.out))) : w.heap.size ≤ gb129))
                        have n4_ := Aside0.mk ((by rw [hg]; exact (below_size (by repeat (first | (with_reducible first | exact HB.out | apply below_alloc | apply pw_below_drewN | apply below_drew1 | refine below_set ?_ GE127.out) | exact HB.out))) : w.heap.size ≤ gb129))
                        have n5_ := Aside0.mk ((by rw [hg]; exact Nat.ne_of_lt (blk_lt (g := gb127) (o := .cells #[.int .i64 0, .int .u64 0, .string (⟨#[]⟩ : ByteArray)] 24 (0, 0)) (by (with_reducible repeat (first | refine blk_drewN ?_ _ | refine blk_drew ?_ | refine blk_alloc ?_ _)); exact BK127.out)) : gb127 ≠ gb129))
                        have n6_ := Aside0.mk ((by rw [hg]; exact Nat.ne_of_gt (blk_lt (g := gb127) (o := .cells #[.int .i64 0, .int .u64 0, .string (⟨#[]⟩ : ByteArray)] 24 (0, 0)) (by (with_reducible repeat (first | refine blk_drewN ?_ _ | refine blk_drew ?_ | refine blk_alloc ?_ _)); exact BK127.out)) : gb129 ≠ gb127))
                        clear BK127
                        clear HB
                        have BK127 := n0_
                        have HB := n1_
                        have BK129 := n2_
                        have GW129 := n3_
                        have GE129 := n4_
                        have NB127_129 := n5_
                        have NB129_127 := n6_
                        clear n0_ n1_ n2_ n3_ n4_ n5_ n6_
                        clear hb hbox hg
                        refine hK.out _ _ trivial (fun hHeld => ?_)
                        clear hK K
                        refine norm_ (a' := ?_) ?_ ?_
                        rotate_left
                        · show Act.put _ (some 8) _ = _
                          simp only [Act.put, List.setIfInBounds_toArray, List.set_cons_zero, List.set_cons_succ, i64_w, i32_w]
                          rfl
                        exact norm_ (by simp only [putAll, Act.put, List.setIfInBounds_toArray, List.set_cons_zero, List.set_cons_succ]) (hCont (gb129) _ ⟨(by (with_reducible repeat (first | refine blk_drewN ?_ _ | refine blk_drew ?_ | refine blk_alloc ?_ _)); exact BK127.out), (by (with_reducible repeat (first | refine blk_drewN ?_ _ | refine blk_drew ?_ | refine blk_alloc ?_ _)); exact BK129.out), GW129.out, GE129.out, NB127_129.out, NB129_127.out, (by repeat (first | (with_reducible first | exact HB.out | apply below_alloc | apply pw_below_drewN | apply below_drew1 | refine below_set ?_ GE127.out | refine below_set ?_ GE129.out) | exact HB.out))⟩)
                      · skip
                        refine box_step ?hg (N := 8) ?hd (cs := #[.int .i64 0, .int .u64 0, .string (⟨#[]⟩ : ByteArray)]) (t := 24) ?hr ?_; (case hd => rfl); (case hg => rfl); (case hr => first | (go_simp; done) | (go_simp; rfl))
                        intro gb129 hg w87 hbox hb
                        have n0_ := Aside0.mk (blk_below (g := gb127) (o := .cells #[.int .i64 0, .int .u64 0, .string (⟨#[]⟩ : ByteArray)] 24 (0, 0)) (by (with_reducible repeat (first | refine blk_drewN ?_ _ | refine blk_drew ?_ | refine blk_alloc ?_ _)); exact BK127.out) hb)
                        have n1_ := Aside0.mk (below_step (by repeat (first | (with_reducible first | exact HB.out | apply below_alloc | apply pw_below_drewN | apply below_drew1 | refine below_set ?_ GE127.out) | exact HB.out)) hb)
                        have n2_ := Aside0.mk (hbox)
                        have n3_ := Aside0.mk ((by rw [hg]; exact (below_size (by repeat (first | (with_reducible first | exact HB.out | apply below_alloc | apply pw_below_drewN | apply below_drew1 | refine below_set ?_ GE127.out) | exact HB.out))) : w.heap.size ≤ gb129))
                        have n4_ := Aside0.mk ((by rw [hg]; exact (below_size (by repeat (first | (with_reducible first | exact HB.out | apply below_alloc | apply pw_below_drewN | apply below_drew1 | refine below_set ?_ GE127.out) | exact HB.out))) : w.heap.size ≤ gb129))
                        have n5_ := Aside0.mk ((by rw [hg]; exact Nat.ne_of_lt (blk_lt (g := gb127) (o := .cells #[.int .i64 0, .int .u64 0, .string (⟨#[]⟩ : ByteArray)] 24 (0, 0)) (by (with_reducible repeat (first | refine blk_drewN ?_ _ | refine blk_drew ?_ | refine blk_alloc ?_ _)); exact BK127.out)) : gb127 ≠ gb129))
                        have n6_ := Aside0.mk ((by rw [hg]; exact Nat.ne_of_gt (blk_lt (g := gb127) (o := .cells #[.int .i64 0, .int .u64 0, .string (⟨#[]⟩ : ByteArray)] 24 (0, 0)) (by (with_reducible repeat (first | refine blk_drewN ?_ _ | refine blk_drew ?_ | refine blk_alloc ?_ _)); exact BK127.out)) : gb129 ≠ gb127))
                        clear BK127
                        clear HB
                        have BK127 := n0_
                        have HB := n1_
                        have BK129 := n2_
                        have GW129 := n3_
                        have GE129 := n4_
                        have NB127_129 := n5_
                        have NB129_127 := n6_
                        clear n0_ n1_ n2_ n3_ n4_ n5_ n6_
                        clear hb hbox hg
                        refine hK.out _ _ trivial (fun hHeld => ?_)
                        clear hK K
                        refine norm_ (a' := ?_) ?_ ?_
                        rotate_left
                        · show Act.put _ (some 8) _ = _
                          simp only [Act.put, List.setIfInBounds_toArray, List.set_cons_zero, List.set_cons_succ, i64_w, i32_w]
                          rfl
                        refine one_ (i := 4) (N := some 34) #[true, true, true, true, true, false, true, false] rfl rfl (one_of HT_.out (by kernel_rfl)) (by decide) (fun K hK => ?_)
                        refine goes_ Tryd.func48 (by kernel_rfl) rfl #[.string (a0.extract (a1 : Int).toNat a0.size), .int .i64 8] (by rfl) rfl rfl (by (try simp only [List.map_toArray, List.map_cons, List.map_nil]); first | done | rfl | (simp only [List.length_drop, List.length_take]; rfl)) ?_
                        with_reducible refine (redo_word64.calls (a0.extract (a1 : Int).toNat a0.size) 8 t128 _ A13.out).mono ?_
                        rintro e w' ⟨rfl, ⟨nd, rfl⟩⟩
                        refine ⟨_, rfl, ?_⟩
                        refine hK.out _ _ trivial (fun hHeld => ?_)
                        clear hK K
                        refine norm_ (a' := ?_) ?_ ?_
                        rotate_left
                        · show Act.put _ (some 34) _ = _
                          simp only [Act.put, List.setIfInBounds_toArray, List.set_cons_zero, List.set_cons_succ, i64_w, i32_w]
                          rfl
                        refine pure_ (i := 5) (N := some 35) (v := ?_) (a' := ?_) #[true, true, true, true, true, true, true, false] rfl rfl (any_of HT_.out (by kernel_rfl)) (fun _ _ _ h => h) (Or.inl ⟨by rfl, ?_⟩) ?_ ?_
                        rotate_left
                        · intro w'
                          go_simp
                          with_reducible rfl
                        rotate_left
                        · simp only [Act.put, List.setIfInBounds_toArray, List.set_cons_zero, List.set_cons_succ, i64_w, i32_w]
                          rfl
                        exact norm_ (by simp only [putAll, Act.put, List.setIfInBounds_toArray, List.set_cons_zero, List.set_cons_succ]) (hCont (gb129) _ ⟨(by (with_reducible repeat (first | refine blk_drewN ?_ _ | refine blk_drew ?_ | refine blk_alloc ?_ _)); exact BK127.out), (by (with_reducible repeat (first | refine blk_drewN ?_ _ | refine blk_drew ?_ | refine blk_alloc ?_ _)); exact BK129.out), GW129.out, GE129.out, NB127_129.out, NB129_127.out, (by repeat (first | (with_reducible first | exact HB.out | apply below_alloc | apply pw_below_drewN | apply below_drew1 | refine below_set ?_ GE127.out | refine below_set ?_ GE129.out) | exact HB.out))⟩)
                    rintro gb129 w88 ⟨h0_, h1_, h2_, h3_, h4_, h5_, h6_⟩
                    have n0_ : Aside0 (w88.heap[gb127]? = some (.cells #[.int .i64 0, .int .u64 0, .string (⟨#[]⟩ : ByteArray)] 24 (0, 0))) := ⟨h0_⟩
                    have n1_ : Aside0 (w88.heap[gb129]? = some (.cells #[.int .i64 0, .int .u64 0, .string (⟨#[]⟩ : ByteArray)] 24 (0, 0))) := ⟨h1_⟩
                    have n2_ : Aside0 (w.heap.size ≤ gb129) := ⟨h2_⟩
                    have n3_ : Aside0 (w.heap.size ≤ gb129) := ⟨h3_⟩
                    have n4_ : Aside0 (gb127 ≠ gb129) := ⟨h4_⟩
                    have n5_ : Aside0 (gb129 ≠ gb127) := ⟨h5_⟩
                    have n6_ : Aside0 (Below w.heap.size w w88) := ⟨h6_⟩
                    clear BK127
                    clear HB
                    clear h0_ h1_ h2_ h3_ h4_ h5_ h6_
                    have BK127 := n0_
                    have BK129 := n1_
                    have GW129 := n2_
                    have GE129 := n3_
                    have NB127_129 := n4_
                    have NB129_127 := n5_
                    have HB := n6_
                    clear n0_ n1_ n2_ n3_ n4_ n5_ n6_
                    have hHeld := trivial
                    refine norm_ (a' := ?_) ?_ ?_
                    rotate_left
                    · simp only [putAll, Act.put, List.setIfInBounds_toArray, List.set_cons_zero, List.set_cons_succ]
                      rfl
                    refine one_ (i := 7) (N := none) #[true, true, true, true, true, true, true, true] rfl rfl (one_of HT_.out (by kernel_rfl)) (by decide) (fun K hK => ?_)
                    have hs89 : w88.cell? ⟨gb129, 0, none⟩ = some (.int .i64 0) := (blk_cell BK129.out 0).trans rfl
                    have hfs89 := blk_frozen BK129.out 0
                    have hns89_0 := NB127_129.out
                    have hms89_0 := NB129_127.out
                    have hs90 : w88.cell? ⟨gb129, 1, none⟩ = some (.int .u64 0) := (blk_cell BK129.out 1).trans rfl
                    have hfs90 := blk_frozen BK129.out 1
                    have hns90_0 := NB127_129.out
                    have hms90_0 := NB129_127.out
                    have hs91 : w88.cell? ⟨gb129, 2, none⟩ = some (.string (⟨#[]⟩ : ByteArray)) := (blk_cell BK129.out 2).trans rfl
                    have hfs91 := blk_frozen BK129.out 2
                    have hns91_0 := NB127_129.out
                    have hms91_0 := NB129_127.out
                    refine skip_ (w1 := ?_) (by rfl) rfl ?_ ?_
                    rotate_left
                    · go_simp
                      rfl
                    refine hK.out _ _ trivial (fun hHeld => ?_)
                    clear hK K
                    refine done_ (done_of HT_.out (by kernel_rfl)) ?_
                    try go_wp2_with (first | ((with_reducible refine gate_callee (f := 49) rfl ?_); refine goesL_ (some 37) rfl rfl Tryd.func49 (by kernel_rfl) rfl #[.string (a0.extract (a1 : Int).toNat a0.size), .int .i64 4] rfl (by (try simp only [List.map_toArray, List.map_cons, List.map_nil]); first | done | rfl | (simp only [List.length_drop, List.length_take]; rfl)) ?_; (with_reducible refine (redo_word32.calls (a0.extract (a1 : Int).toNat a0.size) 4 t130 _ A14.out).mono ?_); rintro e w' ⟨rfl, ⟨nd, rfl⟩⟩; refine ⟨_, rfl, ?_⟩; have hnb92 := NB127_129.out; have hnc92 := NB129_127.out; have hcz93_0 : w88.cell? ⟨gb127, 0, none⟩ = some (.int .i64 0) := (blk_cell BK127.out 0).trans rfl; have hcz93_1 : w88.cell? ⟨gb127, 1, none⟩ = some (.int .u64 0) := (blk_cell BK127.out 1).trans rfl; have hcz93_2 : w88.cell? ⟨gb127, 2, none⟩ = some (.string (⟨#[]⟩ : ByteArray)) := (blk_cell BK127.out 2).trans rfl; have hfz93_0 := blk_frozen BK127.out 0; have hfz93_1 := blk_frozen BK127.out 1; have hfz93_2 := blk_frozen BK127.out 2))
                    refine bodyPost_ret (results_ctt rfl _ _ gb127 24 #[.int .i64 0, .int .u64 0, .string (⟨#[]⟩ : ByteArray)] (0, 0) _ rfl (by (with_reducible repeat (first | refine blk_drewN ?_ _ | refine blk_drew ?_ | refine blk_alloc ?_ _)); refine blk_put (cs := #[.int .i64 0, .int .u64 0, .string (⟨#[]⟩ : ByteArray)]) ?_ 2 _ rfl; (with_reducible repeat (first | refine blk_drewN ?_ _ | refine blk_drew ?_ | refine blk_alloc ?_ _)); refine blk_put (cs := #[.int .i64 0, .int .u64 0, .string (⟨#[]⟩ : ByteArray)]) ?_ 1 _ rfl; (with_reducible repeat (first | refine blk_drewN ?_ _ | refine blk_drew ?_ | refine blk_alloc ?_ _)); refine blk_put (cs := #[.int .i64 0, .int .u64 0, .string (⟨#[]⟩ : ByteArray)]) ?_ 0 _ rfl; (with_reducible repeat (first | refine blk_drewN ?_ _ | refine blk_drew ?_ | refine blk_alloc ?_ _)); refine blk_far ?_ NB127_129.out _; (with_reducible repeat (first | refine blk_drewN ?_ _ | refine blk_drew ?_ | refine blk_alloc ?_ _)); refine blk_far ?_ NB127_129.out _; (with_reducible repeat (first | refine blk_drewN ?_ _ | refine blk_drew ?_ | refine blk_alloc ?_ _)); refine blk_far ?_ NB127_129.out _; (with_reducible repeat (first | refine blk_drewN ?_ _ | refine blk_drew ?_ | refine blk_alloc ?_ _)); exact BK127.out) Tryd.underlying24 rfl (by kernel_rfl)) rfl ?_
                    exact ⟨by first | rfl | (simp [errW_none, errW_some] <;> rfl) | (simp [*, errW_none, errW_some] <;> rfl), by repeat (first | (with_reducible first | exact HB.out | apply below_alloc | apply pw_below_drewN | apply below_drew1 | refine below_set ?_ GE127.out | refine below_set ?_ GE129.out) | exact HB.out)⟩
                · rw [if_neg c16] at H
                  exact absurd H (by simp)
              · rw [if_neg c15] at H
                exact absurd H (by simp)
            · rw [if_neg c11] at H
              exact absurd H (by simp)
          · rw [if_neg c10] at H
            exact absurd H (by simp)
        · rw [if_neg c9] at H
          exact absurd H (by simp)

end Go.Proofs.YtdepngppnbobdaaDoor.PFr
