/- Texts of this seat laid together, what the statement needs of them: PImgx8, PImgx9, HImCd, HImCe, HImGm. -/
import Derived.Test.YtejjidggnnhgjaaDoorZM2
import Derived.Maps.OwnSet
namespace Go.Proofs.YtejjidggnnhgjaaDoor.PImg
open Go.RowKit Go.Proofs.YtejjidggnnhgjaaDoor.HBase Go.Proofs.YtejjidggnnhgjaaDoor.HBlob Go.Proofs.YtejjidggnnhgjaaDoor.HSum Go.Proofs.YtejjidggnnhgjaaDoor.HUv Go.Proofs.YtejjidggnnhgjaaDoorW.PrintWords Go.Proofs.YtejjidggnnhgjaaDoorW.PrintLast Go.Proofs.YtejjidggnnhgjaaDoorW.PrintMore
attribute [local go_sem] max2_int min2_int max_two min_two max_three min_three max_four min_four   -- for this text's walks alone
set_option linter.unusedVariables false
set_option linter.unusedSimpArgs false
/-! ### strataref12_manifestMay: function 34 -/
mutual
def strataref12_manifestMay.j0 : Nat → Bool → Int → Int → Int → List (S36) → Option (Bool)
  | 0, _, _, _, _, _ => none
  | k + 1, x34, x131000, x131001, x131002, x131003 => if x34 = true then (some false) else (strataref12_manifestMay.l0 k 0 0 x131000 x131001 x131002 x131003)
def strataref12_manifestMay.l0 : Nat → Int → Int → Int → Int → Int → List (S36) → Option (Bool)
  | 0, _, _, _, _, _, _ => none
  | k + 1, x3, x4, x131000, x131001, x131002, x131003 => if x4 < (x131003.length : Int) then (if 0 ≤ x4 then ((strataref12_nameMay.f k x131000 x131001 x131002 x131003 ((rd_T36 x131003 x4).f0) ((rd_T36 x131003 x4).f1) ((rd_T36 x131003 x4).f2) ((rd_T36 x131003 x4).f3) ((rd_T36 x131003 x4).f4) ((rd_T36 x131003 x4).f5) ((rd_T36 x131003 x4).f6) ((rd_T36 x131003 x4).f7) x3).bind fun t132 => (if t132 = true then (strataref12_manifestMay.l1 k ((rd_T36 x131003 x4).f2) x4 0 x131000 x131001 x131002 x131003) else (some false))) else (none)) else (some true)
def strataref12_manifestMay.l1 : Nat → Int → Int → Int → Int → Int → Int → List (S36) → Option (Bool)
  | 0, _, _, _, _, _, _, _ => none
  | k + 1, x3, x4, x5, x131000, x131001, x131002, x131003 => if x5 < x4 then (if 0 ≤ x5 then (if x5 < (x131003.length : Int) then (if 0 ≤ x4 then (if x4 < (x131003.length : Int) then (if ((rd_T36 x131003 x5).f0) = ((rd_T36 x131003 x4).f0) then (some false) else (strataref12_manifestMay.l1 k x3 x4 (wrap64 (x5 + 1)) x131000 x131001 x131002 x131003)) else (none)) else (none)) else (none)) else (none)) else (strataref12_manifestMay.l0 k x3 (wrap64 (x4 + 1)) x131000 x131001 x131002 x131003)
end
def strataref12_manifestMay.f (k : Nat) (a0_0 : Int) (a0_1 : Int) (a0_2 : Int) (l0_3 : List (S36)) : Option (Bool) := if a0_0 < 1 then (strataref12_manifestMay.j0 k true a0_0 a0_1 a0_2 l0_3) else (if a0_0 > 99999999 then (strataref12_manifestMay.j0 k true a0_0 a0_1 a0_2 l0_3) else (if a0_1 < 1 then (strataref12_manifestMay.j0 k true a0_0 a0_1 a0_2 l0_3) else (if a0_1 > 100000000 then (strataref12_manifestMay.j0 k true a0_0 a0_1 a0_2 l0_3) else (if a0_2 > 4611686018427387903 then (strataref12_manifestMay.j0 k true a0_0 a0_1 a0_2 l0_3) else (strataref12_manifestMay.j0 k (decide ((l0_3.length : Int) > 256)) a0_0 a0_1 a0_2 l0_3)))))
def strataref12_manifestMay.T7 : Bool × List (List Nat × List Nat) := (true, [([], []), ([], []), ([1], [1]), ([], []), ([2, 3], [2, 3]), ([4], [4]), ([], []), ([0, 5, 6], [0, 5, 6]), ([7], [7])])
def strataref12_manifestMay.B7 : List Nat := [0, 0, 2, 0, 14, 30, 0, 127, 255]
theorem strataref12_manifestMay.tab7 : rtab .any (opsOf Tryd.f34 7) = strataref12_manifestMay.T7 := by kernel_rfl
theorem strataref12_manifestMay.bits7 : waitsOk strataref12_manifestMay.T7.2 strataref12_manifestMay.B7 = true := by kernel_rfl
def strataref12_manifestMay.T13 : Bool × List (List Nat × List Nat) := (true, [([], []), ([0], [0]), ([], []), ([1, 2], [1, 2]), ([3], [3]), ([4], [4]), ([], []), ([6], [6]), ([], []), ([7, 8], [7, 8]), ([9], [9]), ([10], [10]), ([5, 11], [5, 11])])
def strataref12_manifestMay.B13 : List Nat := [0, 1, 0, 7, 15, 31, 0, 64, 0, 448, 960, 1984, 4095]
theorem strataref12_manifestMay.tab13 : rtab .any (opsOf Tryd.f34 13) = strataref12_manifestMay.T13 := by kernel_rfl
theorem strataref12_manifestMay.bits13 : waitsOk strataref12_manifestMay.T13.2 strataref12_manifestMay.B13 = true := by kernel_rfl
set_option maxHeartbeats 8000000 in
set_option maxRecDepth 100000 in
theorem strataref12_manifestMay.calls (k : Nat) (a0_0 : Int) (a0_1 : Int) (a0_2 : Int) (A0_3 : Option Addr) (c0_3 : Nat) (l0_3 : List (S36)) (r : Bool) (w : World) (hr0_3 : Kd.C k36 w A0_3 l0_3.length l0_3) (hc0_3 : l0_3.length ≤ c0_3) (h : strataref12_manifestMay.f k a0_0 a0_1 a0_2 l0_3 = some r) :
    Calls Tryd.prog 34 #[.agg #[.int .i64 a0_0, .int .i64 a0_1, .int .u64 a0_2, .slice A0_3 l0_3.length c0_3]] w fun e w' => e = .returned (.bool r) ∧ Below w.heap.size w w' := by
  have hu25 := Tryd.underlying25
  have hu36 := Tryd.underlying36
  have HR0_3 := Aside0.mk hr0_3
  have HC0_3 := Aside0.mk hc0_3
  clear hr0_3 hc0_3
  have HB := Aside0.mk (Below.refl w.heap.size w)
  have H : (if a0_0 < 1 then (strataref12_manifestMay.j0 k true a0_0 a0_1 a0_2 l0_3) else (if a0_0 > 99999999 then (strataref12_manifestMay.j0 k true a0_0 a0_1 a0_2 l0_3) else (if a0_1 < 1 then (strataref12_manifestMay.j0 k true a0_0 a0_1 a0_2 l0_3) else (if a0_1 > 100000000 then (strataref12_manifestMay.j0 k true a0_0 a0_1 a0_2 l0_3) else (if a0_2 > 4611686018427387903 then (strataref12_manifestMay.j0 k true a0_0 a0_1 a0_2 l0_3) else (strataref12_manifestMay.j0 k (decide ((l0_3.length : Int) > 256)) a0_0 a0_1 a0_2 l0_3)))))) = some r := h
  clear h
  have HC2 := Aside0.mk H
  clear H
  go_enter Tryd.func34, Tryd.ntmps34
  go_upto_region 1 with (first | ((with_reducible refine gate_dst (N := 1) rfl ?_); (try (refine gate_guard (by rfl) ?_; dsimp only)); refine box_event ?hg (N := 1) ?hd (cs := #[.int .i64 a0_0, .int .i64 a0_1, .int .u64 a0_2, .slice A0_3 l0_3.length c0_3]) (t := 25) ?hr ?_; (case hd => rfl); (case hg => rfl); (case hr => first | (go_simp; done) | (go_simp; rfl)); intro gb130 hg w3 hbox hb; have n0_ := Aside0.mk (below_step (by repeat (first | (with_reducible first | exact HB.out | apply below_alloc | apply pw_below_drewN | apply below_drew1) | exact HB.out)) hb); have n1_ := Aside0.mk (hbox); have n2_ := Aside0.mk ((by rw [hg]; exact (below_size (by repeat (first | (with_reducible first | exact HB.out | apply below_alloc | apply pw_below_drewN | apply below_drew1) | exact HB.out))) : w.heap.size ≤ gb130)); have n3_ := Aside0.mk ((by rw [hg]; exact (below_size (by repeat (first | (with_reducible first | exact HB.out | apply below_alloc | apply pw_below_drewN | apply below_drew1) | exact HB.out))) : w.heap.size ≤ gb130)); clear HB; have HB := n0_; have BK130 := n1_; have GW130 := n2_; have GE130 := n3_; clear n0_ n1_ n2_ n3_; clear hb hbox hg))
  (try simp only [Act.put, List.setIfInBounds_toArray, List.set_cons_zero, List.set_cons_succ])
  go_cut [34] (fun v34 wc => ∃ (kq : Nat) (x34_1 : Bool), v34 = .bool x34_1 ∧ Aside0 (strataref12_manifestMay.j0 kq x34_1 a0_0 a0_1 a0_2 l0_3 = some r) ∧ Aside0 (kq ≤ k) ∧ Aside0 (wc.heap[gb130]? = some (.cells #[.int .i64 a0_0, .int .i64 a0_1, .int .u64 a0_2, (.slice A0_3 l0_3.length c0_3)] 25 (0, 0))) ∧ Aside0 (Below w.heap.size w wc))
  case first =>
    have H := HC2.out
    clear HC2
    by_cases c4 : a0_0 < 1
    · rw [if_pos c4] at H
      have c4b0 : decide (a0_0 < 1) = true := decide_eq_true c4
      clear c4
      (first | rw [c4b0] | (simp only [i64_w, i32_w]; rw [c4b0]) | skip)
      have H' := Aside0.mk H
      clear H
      have hcz5_0 : w3.cell? ⟨gb130, 0, none⟩ = some (.int .i64 a0_0) := (blk_cell BK130.out 0).trans rfl
      have hcz5_1 : w3.cell? ⟨gb130, 1, none⟩ = some (.int .i64 a0_1) := (blk_cell BK130.out 1).trans rfl
      have hcz5_2 : w3.cell? ⟨gb130, 2, none⟩ = some (.int .u64 a0_2) := (blk_cell BK130.out 2).trans rfl
      have hcz5_3 : w3.cell? ⟨gb130, 3, none⟩ = some (.slice A0_3 l0_3.length c0_3) := (blk_cell BK130.out 3).trans rfl
      have hfz5_0 := blk_frozen BK130.out 0
      have hfz5_1 := blk_frozen BK130.out 1
      have hfz5_2 := blk_frozen BK130.out 2
      have hfz5_3 := blk_frozen BK130.out 3
      go_wp2
      go_meet
      case rel => exact ⟨_, (true), (by first | rfl | (simp; done) | (simp [*]; done)), H', ⟨by first | omega | exact Nat.le_refl _⟩, ⟨by (with_reducible repeat (first | refine blk_drewN ?_ _ | refine blk_drew ?_ | refine blk_alloc ?_ _)); exact BK130.out⟩, ⟨by repeat (first | (with_reducible first | exact HB.out | apply below_alloc | apply pw_below_drewN | apply below_drew1 | refine below_set ?_ GE130.out) | exact HB.out)⟩⟩
    · rw [if_neg c4] at H
      have c4b0 : decide (a0_0 < 1) = false := decide_eq_false c4
      clear c4
      (first | rw [c4b0] | (simp only [i64_w, i32_w]; rw [c4b0]) | skip)
      by_cases c6 : a0_0 > 99999999
      · rw [if_pos c6] at H
        have c6b0 : decide (99999999 < a0_0) = true := decide_eq_true c6
        clear c6
        have H' := Aside0.mk H
        clear H
        have hcz7_0 : w3.cell? ⟨gb130, 0, none⟩ = some (.int .i64 a0_0) := (blk_cell BK130.out 0).trans rfl
        have hcz7_1 : w3.cell? ⟨gb130, 1, none⟩ = some (.int .i64 a0_1) := (blk_cell BK130.out 1).trans rfl
        have hcz7_2 : w3.cell? ⟨gb130, 2, none⟩ = some (.int .u64 a0_2) := (blk_cell BK130.out 2).trans rfl
        have hcz7_3 : w3.cell? ⟨gb130, 3, none⟩ = some (.slice A0_3 l0_3.length c0_3) := (blk_cell BK130.out 3).trans rfl
        have hfz7_0 := blk_frozen BK130.out 0
        have hfz7_1 := blk_frozen BK130.out 1
        have hfz7_2 := blk_frozen BK130.out 2
        have hfz7_3 := blk_frozen BK130.out 3
        go_wp2
        go_meet
        case rel => exact ⟨_, (true), (by first | rfl | (simp; done) | (simp [*]; done)), H', ⟨by first | omega | exact Nat.le_refl _⟩, ⟨by (with_reducible repeat (first | refine blk_drewN ?_ _ | refine blk_drew ?_ | refine blk_alloc ?_ _)); exact BK130.out⟩, ⟨by repeat (first | (with_reducible first | exact HB.out | apply below_alloc | apply pw_below_drewN | apply below_drew1 | refine below_set ?_ GE130.out) | exact HB.out)⟩⟩
      · rw [if_neg c6] at H
        have c6b0 : decide (99999999 < a0_0) = false := decide_eq_false c6
        clear c6
        by_cases c8 : a0_1 < 1
        · rw [if_pos c8] at H
          have c8b0 : decide (a0_1 < 1) = true := decide_eq_true c8
          clear c8
          have H' := Aside0.mk H
          clear H
          have hcz9_0 : w3.cell? ⟨gb130, 0, none⟩ = some (.int .i64 a0_0) := (blk_cell BK130.out 0).trans rfl
          have hcz9_1 : w3.cell? ⟨gb130, 1, none⟩ = some (.int .i64 a0_1) := (blk_cell BK130.out 1).trans rfl
          have hcz9_2 : w3.cell? ⟨gb130, 2, none⟩ = some (.int .u64 a0_2) := (blk_cell BK130.out 2).trans rfl
          have hcz9_3 : w3.cell? ⟨gb130, 3, none⟩ = some (.slice A0_3 l0_3.length c0_3) := (blk_cell BK130.out 3).trans rfl
          have hfz9_0 := blk_frozen BK130.out 0
          have hfz9_1 := blk_frozen BK130.out 1
          have hfz9_2 := blk_frozen BK130.out 2
          have hfz9_3 := blk_frozen BK130.out 3
          go_wp2
          go_meet
          case rel => exact ⟨_, (true), (by first | rfl | (simp; done) | (simp [*]; done)), H', ⟨by first | omega | exact Nat.le_refl _⟩, ⟨by (with_reducible repeat (first | refine blk_drewN ?_ _ | refine blk_drew ?_ | refine blk_alloc ?_ _)); exact BK130.out⟩, ⟨by repeat (first | (with_reducible first | exact HB.out | apply below_alloc | apply pw_below_drewN | apply below_drew1 | refine below_set ?_ GE130.out) | exact HB.out)⟩⟩
        · rw [if_neg c8] at H
          have c8b0 : decide (a0_1 < 1) = false := decide_eq_false c8
          clear c8
          by_cases c10 : a0_1 > 100000000
          · rw [if_pos c10] at H
            have c10b0 : decide (100000000 < a0_1) = true := decide_eq_true c10
            clear c10
            have H' := Aside0.mk H
            clear H
            have hcz11_0 : w3.cell? ⟨gb130, 0, none⟩ = some (.int .i64 a0_0) := (blk_cell BK130.out 0).trans rfl
            have hcz11_1 : w3.cell? ⟨gb130, 1, none⟩ = some (.int .i64 a0_1) := (blk_cell BK130.out 1).trans rfl
            have hcz11_2 : w3.cell? ⟨gb130, 2, none⟩ = some (.int .u64 a0_2) := (blk_cell BK130.out 2).trans rfl
            have hcz11_3 : w3.cell? ⟨gb130, 3, none⟩ = some (.slice A0_3 l0_3.length c0_3) := (blk_cell BK130.out 3).trans rfl
            have hfz11_0 := blk_frozen BK130.out 0
            have hfz11_1 := blk_frozen BK130.out 1
            have hfz11_2 := blk_frozen BK130.out 2
            have hfz11_3 := blk_frozen BK130.out 3
            go_wp2
            go_meet
            case rel => exact ⟨_, (true), (by first | rfl | (simp; done) | (simp [*]; done)), H', ⟨by first | omega | exact Nat.le_refl _⟩, ⟨by (with_reducible repeat (first | refine blk_drewN ?_ _ | refine blk_drew ?_ | refine blk_alloc ?_ _)); exact BK130.out⟩, ⟨by repeat (first | (with_reducible first | exact HB.out | apply below_alloc | apply pw_below_drewN | apply below_drew1 | refine below_set ?_ GE130.out) | exact HB.out)⟩⟩
          · rw [if_neg c10] at H
            have c10b0 : decide (100000000 < a0_1) = false := decide_eq_false c10
            clear c10
            by_cases c12 : a0_2 > 4611686018427387903
            · rw [if_pos c12] at H
              have c12b0 : decide (4611686018427387903 < a0_2) = true := decide_eq_true c12
              clear c12
              have H' := Aside0.mk H
              clear H
              have hcz13_0 : w3.cell? ⟨gb130, 0, none⟩ = some (.int .i64 a0_0) := (blk_cell BK130.out 0).trans rfl
              have hcz13_1 : w3.cell? ⟨gb130, 1, none⟩ = some (.int .i64 a0_1) := (blk_cell BK130.out 1).trans rfl
              have hcz13_2 : w3.cell? ⟨gb130, 2, none⟩ = some (.int .u64 a0_2) := (blk_cell BK130.out 2).trans rfl
              have hcz13_3 : w3.cell? ⟨gb130, 3, none⟩ = some (.slice A0_3 l0_3.length c0_3) := (blk_cell BK130.out 3).trans rfl
              have hfz13_0 := blk_frozen BK130.out 0
              have hfz13_1 := blk_frozen BK130.out 1
              have hfz13_2 := blk_frozen BK130.out 2
              have hfz13_3 := blk_frozen BK130.out 3
              go_wp2
              go_meet
              case rel => exact ⟨_, (true), (by first | rfl | (simp; done) | (simp [*]; done)), H', ⟨by first | omega | exact Nat.le_refl _⟩, ⟨by (with_reducible repeat (first | refine blk_drewN ?_ _ | refine blk_drew ?_ | refine blk_alloc ?_ _)); exact BK130.out⟩, ⟨by repeat (first | (with_reducible first | exact HB.out | apply below_alloc | apply pw_below_drewN | apply below_drew1 | refine below_set ?_ GE130.out) | exact HB.out)⟩⟩
            · rw [if_neg c12] at H
              have c12b0 : decide (4611686018427387903 < a0_2) = false := decide_eq_false c12
              clear c12
              have H' := Aside0.mk H
              clear H
              have hcz14_0 : w3.cell? ⟨gb130, 0, none⟩ = some (.int .i64 a0_0) := (blk_cell BK130.out 0).trans rfl
              have hcz14_1 : w3.cell? ⟨gb130, 1, none⟩ = some (.int .i64 a0_1) := (blk_cell BK130.out 1).trans rfl
              have hcz14_2 : w3.cell? ⟨gb130, 2, none⟩ = some (.int .u64 a0_2) := (blk_cell BK130.out 2).trans rfl
              have hcz14_3 : w3.cell? ⟨gb130, 3, none⟩ = some (.slice A0_3 l0_3.length c0_3) := (blk_cell BK130.out 3).trans rfl
              have hfz14_0 := blk_frozen BK130.out 0
              have hfz14_1 := blk_frozen BK130.out 1
              have hfz14_2 := blk_frozen BK130.out 2
              have hfz14_3 := blk_frozen BK130.out 3
              go_wp2
              go_meet
              case rel => exact ⟨_, (decide ((l0_3.length : Int) > 256)), (by first | rfl | (simp; done) | (simp [*]; done)), H', ⟨by first | omega | exact Nat.le_refl _⟩, ⟨by (with_reducible repeat (first | refine blk_drewN ?_ _ | refine blk_drew ?_ | refine blk_alloc ?_ _)); exact BK130.out⟩, ⟨by repeat (first | (with_reducible first | exact HB.out | apply below_alloc | apply pw_below_drewN | apply below_drew1 | refine below_set ?_ GE130.out) | exact HB.out)⟩⟩
  case rest =>
    clear HC2
    try clear c1
    try clear p2
    try clear c3
    try clear c4
    try clear c4b0
    try clear c6
    try clear c6b0
    try clear c8
    try clear c8b0
    try clear c10
    try clear c10b0
    try clear c12
    try clear c12b0
    try clear hcz11_0
    try clear hcz11_1
    try clear hcz11_2
    try clear hcz11_3
    try clear hcz13_0
    try clear hcz13_1
    try clear hcz13_2
    try clear hcz13_3
    try clear hcz14_0
    try clear hcz14_1
    try clear hcz14_2
    try clear hcz14_3
    try clear hcz5_0
    try clear hcz5_1
    try clear hcz5_2
    try clear hcz5_3
    try clear hcz7_0
    try clear hcz7_1
    try clear hcz7_2
    try clear hcz7_3
    try clear hcz9_0
    try clear hcz9_1
    try clear hcz9_2
    try clear hcz9_3
    try clear hfz11_0
    try clear hfz11_1
    try clear hfz11_2
    try clear hfz11_3
    try clear hfz13_0
    try clear hfz13_1
    try clear hfz13_2
    try clear hfz13_3
    try clear hfz14_0
    try clear hfz14_1
    try clear hfz14_2
    try clear hfz14_3
    try clear hfz5_0
    try clear hfz5_1
    try clear hfz5_2
    try clear hfz5_3
    try clear hfz7_0
    try clear hfz7_1
    try clear hfz7_2
    try clear hfz7_3
    try clear hfz9_0
    try clear hfz9_1
    try clear hfz9_2
    try clear hfz9_3
    obtain ⟨kq, x34_1, rfl, HA, HJ1, BK130, HB⟩ := hcut
    cases kq with
    | zero => exact absurd HA.out (by simp [strataref12_manifestMay.j0])
    | succ kj1 =>
      have H := HA.out
      clear HA
      simp only [strataref12_manifestMay.j0] at H
      by_cases c15 : x34_1 = true
      · subst c15
        have H1 : (some false) = some r := by rw [if_pos rfl] at H; exact H
        clear H
        have H := H1
        clear H1
        obtain rfl := Option.some.inj H
        go_wp2
        go_ret
        exact ⟨by first | rfl | (simp [errW_none, errW_some] <;> rfl) | (simp [*, errW_none, errW_some] <;> rfl), by repeat (first | (with_reducible first | exact HB.out | apply below_alloc | apply pw_below_drewN | apply below_drew1 | refine below_set ?_ GE130.out) | exact HB.out)⟩
      · replace c15 := Bool.eq_false_iff.mpr c15
        subst c15
        have H1 : (strataref12_manifestMay.l0 kj1 0 0 a0_0 a0_1 a0_2 l0_3) = some r := by rw [if_neg (show ¬ (false = true) by decide)] at H; exact H
        clear H
        have H := H1
        clear H1
        have H' := Aside0.mk H
        clear H
        go_wp2
        go_loopg [3, 4] kj1 (fun kq v3 v4 w' => ∃ (x3_2 : Int) (x4_2 : Int), v3 = .int .u64 x3_2 ∧ v4 = .int .i64 x4_2 ∧ Aside0 (strataref12_manifestMay.l0 kq x3_2 x4_2 a0_0 a0_1 a0_2 l0_3 = some r) ∧ Aside0 (kq ≤ kj1) ∧ Aside0 (w'.heap[gb130]? = some (.cells #[.int .i64 a0_0, .int .i64 a0_1, .int .u64 a0_2, (.slice A0_3 l0_3.length c0_3)] 25 (0, 0))) ∧ Aside0 (Below w.heap.size w w'))
        case atStart => exact ⟨(0), (0), (by first | rfl | (simp; done) | (simp [*]; done)), (by first | rfl | (simp; done) | (simp [*]; done)), H', ⟨Nat.le_refl _⟩, ⟨by (with_reducible repeat (first | refine blk_drewN ?_ _ | refine blk_drew ?_ | refine blk_alloc ?_ _)); exact BK130.out⟩, ⟨by repeat (first | (with_reducible first | exact HB.out | apply below_alloc | apply pw_below_drewN | apply below_drew1 | refine below_set ?_ GE130.out) | exact HB.out)⟩⟩
        case round =>
          clear H'
          try clear c1
          try clear p2
          try clear c3
          try clear c4
          try clear c4b0
          try clear c6
          try clear c6b0
          try clear c8
          try clear c8b0
          try clear c10
          try clear c10b0
          try clear c12
          try clear c12b0
          try clear c15
          try clear hcz11_0
          try clear hcz11_1
          try clear hcz11_2
          try clear hcz11_3
          try clear hcz13_0
          try clear hcz13_1
          try clear hcz13_2
          try clear hcz13_3
          try clear hcz14_0
          try clear hcz14_1
          try clear hcz14_2
          try clear hcz14_3
          try clear hcz5_0
          try clear hcz5_1
          try clear hcz5_2
          try clear hcz5_3
          try clear hcz7_0
          try clear hcz7_1
          try clear hcz7_2
          try clear hcz7_3
          try clear hcz9_0
          try clear hcz9_1
          try clear hcz9_2
          try clear hcz9_3
          try clear hfz11_0
          try clear hfz11_1
          try clear hfz11_2
          try clear hfz11_3
          try clear hfz13_0
          try clear hfz13_1
          try clear hfz13_2
          try clear hfz13_3
          try clear hfz14_0
          try clear hfz14_1
          try clear hfz14_2
          try clear hfz14_3
          try clear hfz5_0
          try clear hfz5_1
          try clear hfz5_2
          try clear hfz5_3
          try clear hfz7_0
          try clear hfz7_1
          try clear hfz7_2
          try clear hfz7_3
          try clear hfz9_0
          try clear hfz9_1
          try clear hfz9_2
          try clear hfz9_3
          try clear p2
          obtain ⟨x3_2, x4_2, rfl, rfl, HA, HK2, BK130, HB⟩ := hrel
          cases gk with
          | zero => exact absurd HA.out (by simp [strataref12_manifestMay.l0])
          | succ k2 =>
            have H := HA.out
            clear HA
            simp only [strataref12_manifestMay.l0] at H
            by_cases c16 : x4_2 < (l0_3.length : Int)
            · rw [if_pos c16] at H
              have c16b0 : decide (x4_2 < (l0_3.length : Int)) = true := decide_eq_true c16
              clear c16
              by_cases c17 : 0 ≤ x4_2
              · rw [if_pos c17] at H
                have c17b0 : decide (0 ≤ x4_2) = true := decide_eq_true c17
                clear c17
                replace H := Option.bind_eq_some_iff.mp H
                obtain ⟨t132, A180, H⟩ := H
                replace H : (if t132 = true then (strataref12_manifestMay.l1 k2 ((rd_T36 l0_3 x4_2).f2) x4_2 0 a0_0 a0_1 a0_2 l0_3) else (some false)) = some r := H
                have A18 := Aside0.mk A180
                clear A180
                by_cases c19 : t132 = true
                · subst c19
                  have H1 : (strataref12_manifestMay.l1 k2 ((rd_T36 l0_3 x4_2).f2) x4_2 0 a0_0 a0_1 a0_2 l0_3) = some r := by rw [if_pos rfl] at H; exact H
                  clear H
                  have H := H1
                  clear H1
                  have H' := Aside0.mk H
                  clear H
                  have hcz20_0 : wr.cell? ⟨gb130, 0, none⟩ = some (.int .i64 a0_0) := (blk_cell BK130.out 0).trans rfl
                  have hcz20_1 : wr.cell? ⟨gb130, 1, none⟩ = some (.int .i64 a0_1) := (blk_cell BK130.out 1).trans rfl
                  have hcz20_2 : wr.cell? ⟨gb130, 2, none⟩ = some (.int .u64 a0_2) := (blk_cell BK130.out 2).trans rfl
                  have hcz20_3 : wr.cell? ⟨gb130, 3, none⟩ = some (.slice A0_3 l0_3.length c0_3) := (blk_cell BK130.out 3).trans rfl
                  have hfz20_0 := blk_frozen BK130.out 0
                  have hfz20_1 := blk_frozen BK130.out 1
                  have hfz20_2 := blk_frozen BK130.out 2
                  have hfz20_3 := blk_frozen BK130.out 3
                  try go_wp2
                  have n0_ := Aside0.mk (blk_drew BK130.out)
                  have n1_ := Aside0.mk (below_drew1 HB.out)
                  clear BK130
                  clear HB
                  have BK130 := n0_
                  have HB := n1_
                  clear n0_ n1_
                  have p131 : 0 ≤ (x4_2 : Int) := of_decide_eq_true (by first | (with_reducible assumption) | assumption)
                  have q131 : x4_2 < (l0_3.length : Int) := of_decide_eq_true (by first | (with_reducible assumption) | assumption)
                  obtain ⟨ad131, e131, hx131_0, hx131_1, hx131_2, hx131_3, hx131_4, hx131_5, hx131_6, hx131_7⟩ := at_T36 HR0_3.out x4_2 p131 q131
                  have hw131_7 := hx131_7
                  have hw131_6 := hx131_6
                  have hw131_5 := hx131_5
                  have hw131_4 := hx131_4
                  have hw131_3 := hx131_3
                  have hw131_2 := hx131_2
                  have hw131_1 := hx131_1
                  have hw131_0 := hx131_0
                  cases e131
                  replace hx131_0 := (HB.out.cell (World.block_lt_of_cell? w _ hx131_0)).trans hx131_0
                  replace hx131_1 := (HB.out.cell (World.block_lt_of_cell? w _ hx131_1)).trans hx131_1
                  replace hx131_2 := (HB.out.cell (World.block_lt_of_cell? w _ hx131_2)).trans hx131_2
                  replace hx131_3 := (HB.out.cell (World.block_lt_of_cell? w _ hx131_3)).trans hx131_3
                  replace hx131_4 := (HB.out.cell (World.block_lt_of_cell? w _ hx131_4)).trans hx131_4
                  replace hx131_5 := (HB.out.cell (World.block_lt_of_cell? w _ hx131_5)).trans hx131_5
                  replace hx131_6 := (HB.out.cell (World.block_lt_of_cell? w _ hx131_6)).trans hx131_6
                  replace hx131_7 := (HB.out.cell (World.block_lt_of_cell? w _ hx131_7)).trans hx131_7
                  replace p131 := eq_true p131
                  replace q131 := eq_true q131
                  refine start_ (n := 9) (S := fun w' => w'.cell? ⟨gb130, 0, none⟩ = some (.int .i64 a0_0) ∧ w'.cell? ⟨gb130, 1, none⟩ = some (.int .i64 a0_1) ∧ w'.cell? ⟨gb130, 2, none⟩ = some (.int .u64 a0_2) ∧ w'.cell? ⟨gb130, 3, none⟩ = some (.slice (some ad131) l0_3.length c0_3) ∧ w'.cell? (ad131.add ((x4_2).toNat * 8)) = some (.int .i64 ((rd_T36 l0_3 x4_2).f0)) ∧ w'.cell? ⟨(ad131.add ((x4_2).toNat * 8)).block, (ad131.add ((x4_2).toNat * 8)).off + 1, none⟩ = some (.int .u64 ((rd_T36 l0_3 x4_2).f1)) ∧ w'.cell? ⟨(ad131.add ((x4_2).toNat * 8)).block, (ad131.add ((x4_2).toNat * 8)).off + 2, none⟩ = some (.int .u64 ((rd_T36 l0_3 x4_2).f2)) ∧ w'.cell? ⟨(ad131.add ((x4_2).toNat * 8)).block, (ad131.add ((x4_2).toNat * 8)).off + 3, none⟩ = some (.int .i64 ((rd_T36 l0_3 x4_2).f3)) ∧ w'.cell? ⟨(ad131.add ((x4_2).toNat * 8)).block, (ad131.add ((x4_2).toNat * 8)).off + 4, none⟩ = some (.int .i64 ((rd_T36 l0_3 x4_2).f4)) ∧ w'.cell? ⟨(ad131.add ((x4_2).toNat * 8)).block, (ad131.add ((x4_2).toNat * 8)).off + 5, none⟩ = some (.int .i64 ((rd_T36 l0_3 x4_2).f5)) ∧ w'.cell? ⟨(ad131.add ((x4_2).toNat * 8)).block, (ad131.add ((x4_2).toNat * 8)).off + 6, none⟩ = some (.int .u32 ((rd_T36 l0_3 x4_2).f6)) ∧ w'.cell? ⟨(ad131.add ((x4_2).toNat * 8)).block, (ad131.add ((x4_2).toNat * 8)).off + 7, none⟩ = some (.int .u32 ((rd_T36 l0_3 x4_2).f7))) (ds := []) #[false, false, false, false, false, false, false, false, false] (by kernel_rfl) rfl rfl ⟨(blk_cell BK130.out 0).trans rfl, (blk_cell BK130.out 1).trans rfl, (blk_cell BK130.out 2).trans rfl, (blk_cell BK130.out 3).trans rfl, ((HB.out.cell (World.block_lt_of_cell? w _ hw131_0)).trans hw131_0), ((HB.out.cell (World.block_lt_of_cell? w _ hw131_1)).trans hw131_1), ((HB.out.cell (World.block_lt_of_cell? w _ hw131_2)).trans hw131_2), ((HB.out.cell (World.block_lt_of_cell? w _ hw131_3)).trans hw131_3), ((HB.out.cell (World.block_lt_of_cell? w _ hw131_4)).trans hw131_4), ((HB.out.cell (World.block_lt_of_cell? w _ hw131_5)).trans hw131_5), ((HB.out.cell (World.block_lt_of_cell? w _ hw131_6)).trans hw131_6), ((HB.out.cell (World.block_lt_of_cell? w _ hw131_7)).trans hw131_7)⟩ (fun hHeld => ?_); refine with_tabW strataref12_manifestMay.tab7 strataref12_manifestMay.bits7 (fun HT_ HW_ => ?_)
                  generalize wr.drew = w21 at BK130 HB hx131_0 hx131_1 hx131_2 hx131_3 hx131_4 hx131_5 hx131_6 hx131_7 hHeld ⊢
                  refine pure_ (i := 1) (N := some 43) (v := ?_) (a' := ?_) #[false, true, false, false, false, false, false, false, false] rfl rfl (any_of HT_.out (by kernel_rfl)) (fun _ _ _ h => h) (Or.inl ⟨by rfl, ?_⟩) ?_ ?_
                  rotate_left
                  · intro w'
                    go_simp
                    with_reducible rfl
                  rotate_left
                  · simp only [Act.put, List.setIfInBounds_toArray, List.set_cons_zero, List.set_cons_succ, i64_w, i32_w]
                    rfl
                  refine pure_ (i := 3) (N := some 45) (v := ?_) (a' := ?_) #[false, true, false, true, false, false, false, false, false] rfl rfl (any_of HT_.out (by kernel_rfl)) (fun _ _ _ h => h) (Or.inl ⟨by rfl, ?_⟩) ?_ ?_
                  rotate_left
                  · intro w'
                    go_simp
                    with_reducible rfl
                  rotate_left
                  · simp only [Act.put, List.setIfInBounds_toArray, List.set_cons_zero, List.set_cons_succ, i64_w, i32_w]
                    rfl
                  refine pure_ (i := 6) (N := some 48) (v := ?_) (a' := ?_) #[false, true, false, true, false, false, true, false, false] rfl rfl (any_of HT_.out (by kernel_rfl)) (fun _ _ _ h => h) (Or.inl ⟨by rfl, ?_⟩) ?_ ?_
                  rotate_left
                  · intro w'
                    go_simp
                    with_reducible rfl
                  rotate_left
                  · simp only [Act.put, List.setIfInBounds_toArray, List.set_cons_zero, List.set_cons_succ, i64_w, i32_w]
                    rfl
                  refine take_ (i := 0) (N := some 42) (v := ?_) (a' := ?_) #[true, true, false, true, false, false, true, false, false] rfl rfl (take_ofW HT_.out HW_.out (by kernel_rfl)) (fun _ _ _ h => h) (Or.inl ⟨by rfl, ?_⟩) hHeld ?_ ?_
                  rotate_left
                  · rintro w' ⟨s0, s1, s2, s3, s4, s5, s6, s7, s8, s9, s10, s11⟩
                    go_simp
                    with_reducible rfl
                  rotate_left
                  · simp only [Act.put, List.setIfInBounds_toArray, List.set_cons_zero, List.set_cons_succ, i64_w, i32_w]
                    rfl
                  refine take_ (i := 2) (N := some 44) (v := ?_) (a' := ?_) #[true, true, true, true, false, false, true, false, false] rfl rfl (take_ofW HT_.out HW_.out (by kernel_rfl)) (fun _ _ _ h => h) (Or.inl ⟨by rfl, ?_⟩) hHeld ?_ ?_
                  rotate_left
                  · rintro w' ⟨s0, s1, s2, s3, s4, s5, s6, s7, s8, s9, s10, s11⟩
                    go_simp
                    with_reducible rfl
                  rotate_left
                  · simp only [Act.put, List.setIfInBounds_toArray, List.set_cons_zero, List.set_cons_succ, i64_w, i32_w]
                    rfl
                  refine pure_ (i := 4) (N := some 46) (v := ?_) (a' := ?_) #[true, true, true, true, true, false, true, false, false] rfl rfl (any_of HT_.out (by kernel_rfl)) (fun _ _ _ h => h) (Or.inl ⟨by rfl, ?_⟩) ?_ ?_
                  rotate_left
                  · intro w'
                    go_simp
                    with_reducible rfl
                  rotate_left
                  · simp only [Act.put, List.setIfInBounds_toArray, List.set_cons_zero, List.set_cons_succ, i64_w, i32_w]
                    rfl
                  refine take_ (i := 5) (N := some 47) (v := ?_) (a' := ?_) #[true, true, true, true, true, true, true, false, false] rfl rfl (take_ofW HT_.out HW_.out (by kernel_rfl)) (fun _ _ _ h => h) (Or.inl ⟨by rfl, ?_⟩) hHeld ?_ ?_
                  rotate_left
                  · rintro w' ⟨s0, s1, s2, s3, s4, s5, s6, s7, s8, s9, s10, s11⟩
                    go_simp
                    with_reducible rfl
                  rotate_left
                  · simp only [Act.put, List.setIfInBounds_toArray, List.set_cons_zero, List.set_cons_succ, i64_w, i32_w]
                    rfl
                  refine one_ (i := 7) (N := some 49) #[true, true, true, true, true, true, true, true, false] rfl rfl (one_of HT_.out (by kernel_rfl)) (by decide) (fun K hK => ?_)
                  refine goes_ Tryd.func64 (by kernel_rfl) rfl #[.agg #[.int .i64 a0_0, .int .i64 a0_1, .int .u64 a0_2, .slice (some ad131) l0_3.length c0_3], .agg #[.int .i64 ((rd_T36 l0_3 x4_2).f0), .int .u64 ((rd_T36 l0_3 x4_2).f1), .int .u64 ((rd_T36 l0_3 x4_2).f2), .int .i64 ((rd_T36 l0_3 x4_2).f3), .int .i64 ((rd_T36 l0_3 x4_2).f4), .int .i64 ((rd_T36 l0_3 x4_2).f5), .int .u32 ((rd_T36 l0_3 x4_2).f6), .int .u32 ((rd_T36 l0_3 x4_2).f7)], .int .u64 x3_2] (by rfl) rfl rfl (by (try simp only [List.map_toArray, List.map_cons, List.map_nil]); first | done | rfl | (simp only [List.length_drop, List.length_take]; rfl)) ?_
                  with_reducible refine (strataref12_nameMay.calls k2 a0_0 a0_1 a0_2 _ _ l0_3 ((rd_T36 l0_3 x4_2).f0) ((rd_T36 l0_3 x4_2).f1) ((rd_T36 l0_3 x4_2).f2) ((rd_T36 l0_3 x4_2).f3) ((rd_T36 l0_3 x4_2).f4) ((rd_T36 l0_3 x4_2).f5) ((rd_T36 l0_3 x4_2).f6) ((rd_T36 l0_3 x4_2).f7) x3_2 true _ ?side1 ?side2 A18.out).mono ?_
                  (case side1 => repeat (first | exact (Kd.C_below HR0_3.out HB.out) | (with_reducible refine Kd.C_alloc ?_ _) | (with_reducible refine Kd.C_drewN ?_ _) | (with_reducible refine Kd.C_drew ?_)))
                  (case side2 => exact HC0_3.out)
                  rintro e w22 ⟨rfl, hb⟩
                  refine ⟨_, rfl, ?_⟩
                  have n0_ := Aside0.mk (blk_below (g := gb130) (o := .cells #[.int .i64 a0_0, .int .i64 a0_1, .int .u64 a0_2, .slice (some ad131) l0_3.length c0_3] 25 (0, 0)) (by (with_reducible repeat (first | refine blk_drewN ?_ _ | refine blk_drew ?_ | refine blk_alloc ?_ _)); exact BK130.out) hb)
                  have n1_ := Aside0.mk (below_step (by repeat (first | (with_reducible first | exact HB.out | apply below_alloc | apply pw_below_drewN | apply below_drew1 | refine below_set ?_ GE130.out) | exact HB.out)) hb)
                  clear BK130
                  clear HB
                  have BK130 := n0_
                  have HB := n1_
                  clear n0_ n1_
                  (try clear hb)
                  (try clear hb2)
                  (try clear hk)
                  (try clear hi)
                  refine hK.out _ _ ⟨(blk_cell BK130.out 0).trans rfl, (blk_cell BK130.out 1).trans rfl, (blk_cell BK130.out 2).trans rfl, (blk_cell BK130.out 3).trans rfl, ((HB.out.cell (World.block_lt_of_cell? w _ hw131_0)).trans hw131_0), ((HB.out.cell (World.block_lt_of_cell? w _ hw131_1)).trans hw131_1), ((HB.out.cell (World.block_lt_of_cell? w _ hw131_2)).trans hw131_2), ((HB.out.cell (World.block_lt_of_cell? w _ hw131_3)).trans hw131_3), ((HB.out.cell (World.block_lt_of_cell? w _ hw131_4)).trans hw131_4), ((HB.out.cell (World.block_lt_of_cell? w _ hw131_5)).trans hw131_5), ((HB.out.cell (World.block_lt_of_cell? w _ hw131_6)).trans hw131_6), ((HB.out.cell (World.block_lt_of_cell? w _ hw131_7)).trans hw131_7)⟩ (fun hHeld => ?_)
                  clear hK K
                  refine norm_ (a' := ?_) ?_ ?_
                  rotate_left
                  · show Act.put _ (some 49) _ = _
                    simp only [Act.put, List.setIfInBounds_toArray, List.set_cons_zero, List.set_cons_succ, i64_w, i32_w]
                    rfl
                  refine pure_ (i := 8) (N := some 50) (v := ?_) (a' := ?_) #[true, true, true, true, true, true, true, true, true] rfl rfl (any_of HT_.out (by kernel_rfl)) (fun _ _ _ h => h) (Or.inl ⟨by rfl, ?_⟩) ?_ ?_
                  rotate_left
                  · intro w'
                    go_simp
                    with_reducible rfl
                  rotate_left
                  · simp only [Act.put, List.setIfInBounds_toArray, List.set_cons_zero, List.set_cons_succ, i64_w, i32_w]
                    rfl
                  refine done_ (done_of HT_.out (by kernel_rfl)) ?_
                  have hcz23_0 : w22.cell? ⟨gb130, 0, none⟩ = some (.int .i64 a0_0) := (blk_cell BK130.out 0).trans rfl
                  have hcz23_1 : w22.cell? ⟨gb130, 1, none⟩ = some (.int .i64 a0_1) := (blk_cell BK130.out 1).trans rfl
                  have hcz23_2 : w22.cell? ⟨gb130, 2, none⟩ = some (.int .u64 a0_2) := (blk_cell BK130.out 2).trans rfl
                  have hcz23_3 : w22.cell? ⟨gb130, 3, none⟩ = some (.slice (some ad131) l0_3.length c0_3) := (blk_cell BK130.out 3).trans rfl
                  have hfz23_0 := blk_frozen BK130.out 0
                  have hfz23_1 := blk_frozen BK130.out 1
                  have hfz23_2 := blk_frozen BK130.out 2
                  have hfz23_3 := blk_frozen BK130.out 3
                  have p133 : 0 ≤ (x4_2 : Int) := of_decide_eq_true (by first | (with_reducible assumption) | assumption)
                  have q133 : x4_2 < (l0_3.length : Int) := of_decide_eq_true (by first | (with_reducible assumption) | assumption)
                  obtain ⟨ad133, e133, hx133_0, hx133_1, hx133_2, hx133_3, hx133_4, hx133_5, hx133_6, hx133_7⟩ := at_T36 HR0_3.out x4_2 p133 q133
                  obtain rfl : ad131 = ad133 := (by injection e133)
                  replace hx133_0 := (HB.out.cell (World.block_lt_of_cell? w _ hx133_0)).trans hx133_0
                  replace hx133_1 := (HB.out.cell (World.block_lt_of_cell? w _ hx133_1)).trans hx133_1
                  replace hx133_2 := (HB.out.cell (World.block_lt_of_cell? w _ hx133_2)).trans hx133_2
                  replace hx133_3 := (HB.out.cell (World.block_lt_of_cell? w _ hx133_3)).trans hx133_3
                  replace hx133_4 := (HB.out.cell (World.block_lt_of_cell? w _ hx133_4)).trans hx133_4
                  replace hx133_5 := (HB.out.cell (World.block_lt_of_cell? w _ hx133_5)).trans hx133_5
                  replace hx133_6 := (HB.out.cell (World.block_lt_of_cell? w _ hx133_6)).trans hx133_6
                  replace hx133_7 := (HB.out.cell (World.block_lt_of_cell? w _ hx133_7)).trans hx133_7
                  replace p133 := eq_true p133
                  replace q133 := eq_true q133
                  try go_wp2
                  go_loopg [5] k2 (fun kq v5 w' => ∃ (x5_3 : Int), v5 = .int .i64 x5_3 ∧ Aside0 (strataref12_manifestMay.l1 kq ((rd_T36 l0_3 x4_2).f2) x4_2 x5_3 a0_0 a0_1 a0_2 l0_3 = some r) ∧ Aside0 (kq ≤ k2) ∧ Aside0 (w'.heap[gb130]? = some (.cells #[.int .i64 a0_0, .int .i64 a0_1, .int .u64 a0_2, (.slice (some ad131) l0_3.length c0_3)] 25 (0, 0))) ∧ Aside0 (Below w.heap.size w w'))
                  case atStart => exact ⟨(0), (by first | rfl | (simp; done) | (simp [*]; done)), H', ⟨Nat.le_refl _⟩, ⟨by (with_reducible repeat (first | refine blk_drewN ?_ _ | refine blk_drew ?_ | refine blk_alloc ?_ _)); exact BK130.out⟩, ⟨by repeat (first | (with_reducible first | exact HB.out | apply below_alloc | apply pw_below_drewN | apply below_drew1 | refine below_set ?_ GE130.out) | exact HB.out)⟩⟩
                  case round =>
                    clear H'
                    try clear c1
                    try clear p1
                    try clear q1
                    try clear hx1
                    try clear p2
                    try clear c3
                    try clear c4
                    try clear c4b0
                    try clear c6
                    try clear c6b0
                    try clear c8
                    try clear c8b0
                    try clear c10
                    try clear c10b0
                    try clear c12
                    try clear c12b0
                    try clear p13
                    try clear q13
                    try clear hx13
                    try clear c15
                    try clear c16
                    try clear c16b0
                    try clear c17
                    try clear c17b0
                    try clear c19
                    try clear hcz11_0
                    try clear hcz11_1
                    try clear hcz11_2
                    try clear hcz11_3
                    try clear hcz13_0
                    try clear hcz13_1
                    try clear hcz13_2
                    try clear hcz13_3
                    try clear hcz14_0
                    try clear hcz14_1
                    try clear hcz14_2
                    try clear hcz14_3
                    try clear hcz20_0
                    try clear hcz20_1
                    try clear hcz20_2
                    try clear hcz20_3
                    try clear hcz23_0
                    try clear hcz23_1
                    try clear hcz23_2
                    try clear hcz23_3
                    try clear hcz5_0
                    try clear hcz5_1
                    try clear hcz5_2
                    try clear hcz5_3
                    try clear hcz7_0
                    try clear hcz7_1
                    try clear hcz7_2
                    try clear hcz7_3
                    try clear hcz9_0
                    try clear hcz9_1
                    try clear hcz9_2
                    try clear hcz9_3
                    try clear hfz11_0
                    try clear hfz11_1
                    try clear hfz11_2
                    try clear hfz11_3
                    try clear hfz13_0
                    try clear hfz13_1
                    try clear hfz13_2
                    try clear hfz13_3
                    try clear hfz14_0
                    try clear hfz14_1
                    try clear hfz14_2
                    try clear hfz14_3
                    try clear hfz20_0
                    try clear hfz20_1
                    try clear hfz20_2
                    try clear hfz20_3
                    try clear hfz23_0
                    try clear hfz23_1
                    try clear hfz23_2
                    try clear hfz23_3
                    try clear hfz5_0
                    try clear hfz5_1
                    try clear hfz5_2
                    try clear hfz5_3
                    try clear hfz7_0
                    try clear hfz7_1
                    try clear hfz7_2
                    try clear hfz7_3
                    try clear hfz9_0
                    try clear hfz9_1
                    try clear hfz9_2
                    try clear hfz9_3
                    try clear hx131_0
                    try clear hx131_1
                    try clear hx131_2
                    try clear hx131_3
                    try clear hx131_4
                    try clear hx131_5
                    try clear hx131_6
                    try clear hx131_7
                    try clear hx133_0
                    try clear hx133_1
                    try clear hx133_2
                    try clear hx133_3
                    try clear hx133_4
                    try clear hx133_5
                    try clear hx133_6
                    try clear hx133_7
                    try clear p131
                    try clear p133
                    try clear p2
                    try clear q131
                    try clear q133
                    obtain ⟨x5_3, rfl, HA, HK3, BK130, HB⟩ := hrel
                    cases gk with
                    | zero => exact absurd HA.out (by simp [strataref12_manifestMay.l1])
                    | succ k3 =>
                      have H := HA.out
                      clear HA
                      simp only [strataref12_manifestMay.l1] at H
                      by_cases c24 : x5_3 < x4_2
                      · rw [if_pos c24] at H
                        have c24b0 : decide (x5_3 < x4_2) = true := decide_eq_true c24
                        clear c24
                        by_cases c25 : 0 ≤ x5_3
                        · rw [if_pos c25] at H
                          have c25b0 : decide (0 ≤ x5_3) = true := decide_eq_true c25
                          clear c25
                          by_cases c26 : x5_3 < (l0_3.length : Int)
                          · rw [if_pos c26] at H
                            have c26b0 : decide (x5_3 < (l0_3.length : Int)) = true := decide_eq_true c26
                            clear c26
                            by_cases c27 : 0 ≤ x4_2
                            · rw [if_pos c27] at H
                              have c27b0 : decide (0 ≤ x4_2) = true := decide_eq_true c27
                              clear c27
                              by_cases c28 : x4_2 < (l0_3.length : Int)
                              · rw [if_pos c28] at H
                                have c28b0 : decide (x4_2 < (l0_3.length : Int)) = true := decide_eq_true c28
                                clear c28
                                by_cases c29 : ((rd_T36 l0_3 x5_3).f0) = ((rd_T36 l0_3 x4_2).f0)
                                · rw [if_pos c29] at H
                                  have c29b0 : (((rd_T36 l0_3 x5_3).f0) == ((rd_T36 l0_3 x4_2).f0)) = true := beq_iff_eq.mpr c29
                                  have c29b1 : (((rd_T36 l0_3 x5_3).f0) != ((rd_T36 l0_3 x4_2).f0)) = false := bne_eq_false_iff_eq.mpr c29
                                  clear c29
                                  obtain rfl := Option.some.inj H
                                  try go_wp2
                                  have n0_ := Aside0.mk (blk_drew BK130.out)
                                  have n1_ := Aside0.mk (below_drew1 HB.out)
                                  clear BK130
                                  clear HB
                                  have BK130 := n0_
                                  have HB := n1_
                                  clear n0_ n1_
                                  have p134 : 0 ≤ (x5_3 : Int) := of_decide_eq_true (by first | (with_reducible assumption) | assumption)
                                  have q134 : x5_3 < (l0_3.length : Int) := of_decide_eq_true (by first | (with_reducible assumption) | assumption)
                                  obtain ⟨ad134, e134, hx134_0, hx134_1, hx134_2, hx134_3, hx134_4, hx134_5, hx134_6, hx134_7⟩ := at_T36 HR0_3.out x5_3 p134 q134
                                  have hw134_7 := hx134_7
                                  have hw134_6 := hx134_6
                                  have hw134_5 := hx134_5
                                  have hw134_4 := hx134_4
                                  have hw134_3 := hx134_3
                                  have hw134_2 := hx134_2
                                  have hw134_1 := hx134_1
                                  have hw134_0 := hx134_0
                                  obtain rfl : ad131 = ad134 := (by injection e134)
                                  replace hx134_0 := (HB.out.cell (World.block_lt_of_cell? w _ hx134_0)).trans hx134_0
                                  replace hx134_1 := (HB.out.cell (World.block_lt_of_cell? w _ hx134_1)).trans hx134_1
                                  replace hx134_2 := (HB.out.cell (World.block_lt_of_cell? w _ hx134_2)).trans hx134_2
                                  replace hx134_3 := (HB.out.cell (World.block_lt_of_cell? w _ hx134_3)).trans hx134_3
                                  replace hx134_4 := (HB.out.cell (World.block_lt_of_cell? w _ hx134_4)).trans hx134_4
                                  replace hx134_5 := (HB.out.cell (World.block_lt_of_cell? w _ hx134_5)).trans hx134_5
                                  replace hx134_6 := (HB.out.cell (World.block_lt_of_cell? w _ hx134_6)).trans hx134_6
                                  replace hx134_7 := (HB.out.cell (World.block_lt_of_cell? w _ hx134_7)).trans hx134_7
                                  replace p134 := eq_true p134
                                  replace q134 := eq_true q134
                                  have p135 : 0 ≤ (x4_2 : Int) := of_decide_eq_true (by first | (with_reducible assumption) | assumption)
                                  have q135 : x4_2 < (l0_3.length : Int) := of_decide_eq_true (by first | (with_reducible assumption) | assumption)
                                  obtain ⟨ad135, e135, hx135_0, hx135_1, hx135_2, hx135_3, hx135_4, hx135_5, hx135_6, hx135_7⟩ := at_T36 HR0_3.out x4_2 p135 q135
                                  have hw135_7 := hx135_7
                                  have hw135_6 := hx135_6
                                  have hw135_5 := hx135_5
                                  have hw135_4 := hx135_4
                                  have hw135_3 := hx135_3
                                  have hw135_2 := hx135_2
                                  have hw135_1 := hx135_1
                                  have hw135_0 := hx135_0
                                  obtain rfl : ad131 = ad135 := (by injection e135)
                                  replace hx135_0 := (HB.out.cell (World.block_lt_of_cell? w _ hx135_0)).trans hx135_0
                                  replace hx135_1 := (HB.out.cell (World.block_lt_of_cell? w _ hx135_1)).trans hx135_1
                                  replace hx135_2 := (HB.out.cell (World.block_lt_of_cell? w _ hx135_2)).trans hx135_2
                                  replace hx135_3 := (HB.out.cell (World.block_lt_of_cell? w _ hx135_3)).trans hx135_3
                                  replace hx135_4 := (HB.out.cell (World.block_lt_of_cell? w _ hx135_4)).trans hx135_4
                                  replace hx135_5 := (HB.out.cell (World.block_lt_of_cell? w _ hx135_5)).trans hx135_5
                                  replace hx135_6 := (HB.out.cell (World.block_lt_of_cell? w _ hx135_6)).trans hx135_6
                                  replace hx135_7 := (HB.out.cell (World.block_lt_of_cell? w _ hx135_7)).trans hx135_7
                                  replace p135 := eq_true p135
                                  replace q135 := eq_true q135
                                  refine start_ (n := 13) (S := fun w' => w'.cell? ⟨gb130, 0, none⟩ = some (.int .i64 a0_0) ∧ w'.cell? ⟨gb130, 1, none⟩ = some (.int .i64 a0_1) ∧ w'.cell? ⟨gb130, 2, none⟩ = some (.int .u64 a0_2) ∧ w'.cell? ⟨gb130, 3, none⟩ = some (.slice (some ad131) l0_3.length c0_3) ∧ w'.cell? (ad131.add ((x5_3).toNat * 8)) = some (.int .i64 ((rd_T36 l0_3 x5_3).f0)) ∧ w'.cell? ⟨(ad131.add ((x5_3).toNat * 8)).block, (ad131.add ((x5_3).toNat * 8)).off + 1, none⟩ = some (.int .u64 ((rd_T36 l0_3 x5_3).f1)) ∧ w'.cell? ⟨(ad131.add ((x5_3).toNat * 8)).block, (ad131.add ((x5_3).toNat * 8)).off + 2, none⟩ = some (.int .u64 ((rd_T36 l0_3 x5_3).f2)) ∧ w'.cell? ⟨(ad131.add ((x5_3).toNat * 8)).block, (ad131.add ((x5_3).toNat * 8)).off + 3, none⟩ = some (.int .i64 ((rd_T36 l0_3 x5_3).f3)) ∧ w'.cell? ⟨(ad131.add ((x5_3).toNat * 8)).block, (ad131.add ((x5_3).toNat * 8)).off + 4, none⟩ = some (.int .i64 ((rd_T36 l0_3 x5_3).f4)) ∧ w'.cell? ⟨(ad131.add ((x5_3).toNat * 8)).block, (ad131.add ((x5_3).toNat * 8)).off + 5, none⟩ = some (.int .i64 ((rd_T36 l0_3 x5_3).f5)) ∧ w'.cell? ⟨(ad131.add ((x5_3).toNat * 8)).block, (ad131.add ((x5_3).toNat * 8)).off + 6, none⟩ = some (.int .u32 ((rd_T36 l0_3 x5_3).f6)) ∧ w'.cell? ⟨(ad131.add ((x5_3).toNat * 8)).block, (ad131.add ((x5_3).toNat * 8)).off + 7, none⟩ = some (.int .u32 ((rd_T36 l0_3 x5_3).f7)) ∧ w'.cell? (ad131.add ((x4_2).toNat * 8)) = some (.int .i64 ((rd_T36 l0_3 x4_2).f0)) ∧ w'.cell? ⟨(ad131.add ((x4_2).toNat * 8)).block, (ad131.add ((x4_2).toNat * 8)).off + 1, none⟩ = some (.int .u64 ((rd_T36 l0_3 x4_2).f1)) ∧ w'.cell? ⟨(ad131.add ((x4_2).toNat * 8)).block, (ad131.add ((x4_2).toNat * 8)).off + 2, none⟩ = some (.int .u64 ((rd_T36 l0_3 x4_2).f2)) ∧ w'.cell? ⟨(ad131.add ((x4_2).toNat * 8)).block, (ad131.add ((x4_2).toNat * 8)).off + 3, none⟩ = some (.int .i64 ((rd_T36 l0_3 x4_2).f3)) ∧ w'.cell? ⟨(ad131.add ((x4_2).toNat * 8)).block, (ad131.add ((x4_2).toNat * 8)).off + 4, none⟩ = some (.int .i64 ((rd_T36 l0_3 x4_2).f4)) ∧ w'.cell? ⟨(ad131.add ((x4_2).toNat * 8)).block, (ad131.add ((x4_2).toNat * 8)).off + 5, none⟩ = some (.int .i64 ((rd_T36 l0_3 x4_2).f5)) ∧ w'.cell? ⟨(ad131.add ((x4_2).toNat * 8)).block, (ad131.add ((x4_2).toNat * 8)).off + 6, none⟩ = some (.int .u32 ((rd_T36 l0_3 x4_2).f6)) ∧ w'.cell? ⟨(ad131.add ((x4_2).toNat * 8)).block, (ad131.add ((x4_2).toNat * 8)).off + 7, none⟩ = some (.int .u32 ((rd_T36 l0_3 x4_2).f7))) (ds := []) #[false, false, false, false, false, false, false, false, false, false, false, false, false] (by kernel_rfl) rfl rfl ⟨(blk_cell BK130.out 0).trans rfl, (blk_cell BK130.out 1).trans rfl, (blk_cell BK130.out 2).trans rfl, (blk_cell BK130.out 3).trans rfl, ((HB.out.cell (World.block_lt_of_cell? w _ hw134_0)).trans hw134_0), ((HB.out.cell (World.block_lt_of_cell? w _ hw134_1)).trans hw134_1), ((HB.out.cell (World.block_lt_of_cell? w _ hw134_2)).trans hw134_2), ((HB.out.cell (World.block_lt_of_cell? w _ hw134_3)).trans hw134_3), ((HB.out.cell (World.block_lt_of_cell? w _ hw134_4)).trans hw134_4), ((HB.out.cell (World.block_lt_of_cell? w _ hw134_5)).trans hw134_5), ((HB.out.cell (World.block_lt_of_cell? w _ hw134_6)).trans hw134_6), ((HB.out.cell (World.block_lt_of_cell? w _ hw134_7)).trans hw134_7), ((HB.out.cell (World.block_lt_of_cell? w _ hw135_0)).trans hw135_0), ((HB.out.cell (World.block_lt_of_cell? w _ hw135_1)).trans hw135_1), ((HB.out.cell (World.block_lt_of_cell? w _ hw135_2)).trans hw135_2), ((HB.out.cell (World.block_lt_of_cell? w _ hw135_3)).trans hw135_3), ((HB.out.cell (World.block_lt_of_cell? w _ hw135_4)).trans hw135_4), ((HB.out.cell (World.block_lt_of_cell? w _ hw135_5)).trans hw135_5), ((HB.out.cell (World.block_lt_of_cell? w _ hw135_6)).trans hw135_6), ((HB.out.cell (World.block_lt_of_cell? w _ hw135_7)).trans hw135_7)⟩ (fun hHeld => ?_); refine with_tabW strataref12_manifestMay.tab13 strataref12_manifestMay.bits13 (fun HT_ HW_ => ?_)
                                  generalize wr.drew = w30 at BK130 HB hx134_0 hx134_1 hx134_2 hx134_3 hx134_4 hx134_5 hx134_6 hx134_7 hx135_0 hx135_1 hx135_2 hx135_3 hx135_4 hx135_5 hx135_6 hx135_7 hHeld ⊢
                                  refine pure_ (i := 0) (N := some 62) (v := ?_) (a' := ?_) #[true, false, false, false, false, false, false, false, false, false, false, false, false] rfl rfl (any_of HT_.out (by kernel_rfl)) (fun _ _ _ h => h) (Or.inl ⟨by rfl, ?_⟩) ?_ ?_
                                  rotate_left
                                  · intro w'
                                    go_simp
                                    with_reducible rfl
                                  rotate_left
                                  · simp only [Act.put, List.setIfInBounds_toArray, List.set_cons_zero, List.set_cons_succ, i64_w, i32_w]
                                    rfl
                                  refine pure_ (i := 2) (N := some 64) (v := ?_) (a' := ?_) #[true, false, true, false, false, false, false, false, false, false, false, false, false] rfl rfl (any_of HT_.out (by kernel_rfl)) (fun _ _ _ h => h) (Or.inl ⟨by rfl, ?_⟩) ?_ ?_
                                  rotate_left
                                  · intro w'
                                    go_simp
                                    with_reducible rfl
                                  rotate_left
                                  · simp only [Act.put, List.setIfInBounds_toArray, List.set_cons_zero, List.set_cons_succ, i64_w, i32_w]
                                    rfl
                                  refine pure_ (i := 6) (N := some 68) (v := ?_) (a' := ?_) #[true, false, true, false, false, false, true, false, false, false, false, false, false] rfl rfl (any_of HT_.out (by kernel_rfl)) (fun _ _ _ h => h) (Or.inl ⟨by rfl, ?_⟩) ?_ ?_
                                  rotate_left
                                  · intro w'
                                    go_simp
                                    with_reducible rfl
                                  rotate_left
                                  · simp only [Act.put, List.setIfInBounds_toArray, List.set_cons_zero, List.set_cons_succ, i64_w, i32_w]
                                    rfl
                                  refine pure_ (i := 8) (N := some 70) (v := ?_) (a' := ?_) #[true, false, true, false, false, false, true, false, true, false, false, false, false] rfl rfl (any_of HT_.out (by kernel_rfl)) (fun _ _ _ h => h) (Or.inl ⟨by rfl, ?_⟩) ?_ ?_
                                  rotate_left
                                  · intro w'
                                    go_simp
                                    with_reducible rfl
                                  rotate_left
                                  · simp only [Act.put, List.setIfInBounds_toArray, List.set_cons_zero, List.set_cons_succ, i64_w, i32_w]
                                    rfl
                                  refine take_ (i := 1) (N := some 63) (v := ?_) (a' := ?_) #[true, true, true, false, false, false, true, false, true, false, false, false, false] rfl rfl (take_ofW HT_.out HW_.out (by kernel_rfl)) (fun _ _ _ h => h) (Or.inl ⟨by rfl, ?_⟩) hHeld ?_ ?_
                                  rotate_left
                                  · rintro w' ⟨s0, s1, s2, s3, s4, s5, s6, s7, s8, s9, s10, s11, s12, s13, s14, s15, s16, s17, s18, s19⟩
                                    go_simp
                                    with_reducible rfl
                                  rotate_left
                                  · simp only [Act.put, List.setIfInBounds_toArray, List.set_cons_zero, List.set_cons_succ, i64_w, i32_w]
                                    rfl
                                  refine pure_ (i := 3) (N := some 65) (v := ?_) (a' := ?_) #[true, true, true, true, false, false, true, false, true, false, false, false, false] rfl rfl (any_of HT_.out (by kernel_rfl)) (fun _ _ _ h => h) (Or.inl ⟨by rfl, ?_⟩) ?_ ?_
                                  rotate_left
                                  · intro w'
                                    go_simp
                                    with_reducible rfl
                                  rotate_left
                                  · simp only [Act.put, List.setIfInBounds_toArray, List.set_cons_zero, List.set_cons_succ, i64_w, i32_w]
                                    rfl
                                  refine pure_ (i := 4) (N := some 66) (v := ?_) (a' := ?_) #[true, true, true, true, true, false, true, false, true, false, false, false, false] rfl rfl (any_of HT_.out (by kernel_rfl)) (fun _ _ _ h => h) (Or.inl ⟨by rfl, ?_⟩) ?_ ?_
                                  rotate_left
                                  · intro w'
                                    go_simp
                                    with_reducible rfl
                                  rotate_left
                                  · simp only [Act.put, List.setIfInBounds_toArray, List.set_cons_zero, List.set_cons_succ, i64_w, i32_w]
                                    rfl
                                  refine take_ (i := 5) (N := some 67) (v := ?_) (a' := ?_) #[true, true, true, true, true, true, true, false, true, false, false, false, false] rfl rfl (take_ofW HT_.out HW_.out (by kernel_rfl)) (fun _ _ _ h => h) (Or.inl ⟨by rfl, ?_⟩) hHeld ?_ ?_
                                  rotate_left
                                  · rintro w' ⟨s0, s1, s2, s3, s4, s5, s6, s7, s8, s9, s10, s11, s12, s13, s14, s15, s16, s17, s18, s19⟩
                                    go_simp
                                    with_reducible rfl
                                  rotate_left
                                  · simp only [Act.put, List.setIfInBounds_toArray, List.set_cons_zero, List.set_cons_succ, i64_w, i32_w]
                                    rfl
                                  refine take_ (i := 7) (N := some 69) (v := ?_) (a' := ?_) #[true, true, true, true, true, true, true, true, true, false, false, false, false] rfl rfl (take_ofW HT_.out HW_.out (by kernel_rfl)) (fun _ _ _ h => h) (Or.inl ⟨by rfl, ?_⟩) hHeld ?_ ?_
                                  rotate_left
                                  · rintro w' ⟨s0, s1, s2, s3, s4, s5, s6, s7, s8, s9, s10, s11, s12, s13, s14, s15, s16, s17, s18, s19⟩
                                    go_simp
                                    with_reducible rfl
                                  rotate_left
                                  · simp only [Act.put, List.setIfInBounds_toArray, List.set_cons_zero, List.set_cons_succ, i64_w, i32_w]
                                    rfl
                                  refine pure_ (i := 9) (N := some 71) (v := ?_) (a' := ?_) #[true, true, true, true, true, true, true, true, true, true, false, false, false] rfl rfl (any_of HT_.out (by kernel_rfl)) (fun _ _ _ h => h) (Or.inl ⟨by rfl, ?_⟩) ?_ ?_
                                  rotate_left
                                  · intro w'
                                    go_simp
                                    with_reducible rfl
                                  rotate_left
                                  · simp only [Act.put, List.setIfInBounds_toArray, List.set_cons_zero, List.set_cons_succ, i64_w, i32_w]
                                    rfl
                                  refine pure_ (i := 10) (N := some 72) (v := ?_) (a' := ?_) #[true, true, true, true, true, true, true, true, true, true, true, false, false] rfl rfl (any_of HT_.out (by kernel_rfl)) (fun _ _ _ h => h) (Or.inl ⟨by rfl, ?_⟩) ?_ ?_
                                  rotate_left
                                  · intro w'
                                    go_simp
                                    with_reducible rfl
                                  rotate_left
                                  · simp only [Act.put, List.setIfInBounds_toArray, List.set_cons_zero, List.set_cons_succ, i64_w, i32_w]
                                    rfl
                                  refine take_ (i := 11) (N := some 73) (v := ?_) (a' := ?_) #[true, true, true, true, true, true, true, true, true, true, true, true, false] rfl rfl (take_ofW HT_.out HW_.out (by kernel_rfl)) (fun _ _ _ h => h) (Or.inl ⟨by rfl, ?_⟩) hHeld ?_ ?_
                                  rotate_left
                                  · rintro w' ⟨s0, s1, s2, s3, s4, s5, s6, s7, s8, s9, s10, s11, s12, s13, s14, s15, s16, s17, s18, s19⟩
                                    go_simp
                                    with_reducible rfl
                                  rotate_left
                                  · simp only [Act.put, List.setIfInBounds_toArray, List.set_cons_zero, List.set_cons_succ, i64_w, i32_w]
                                    rfl
                                  refine pure_ (i := 12) (N := some 74) (v := ?_) (a' := ?_) #[true, true, true, true, true, true, true, true, true, true, true, true, true] rfl rfl (any_of HT_.out (by kernel_rfl)) (fun _ _ _ h => h) (Or.inl ⟨by rfl, ?_⟩) ?_ ?_
                                  rotate_left
                                  · intro w'
                                    go_simp
                                    with_reducible rfl
                                  rotate_left
                                  · simp only [Act.put, List.setIfInBounds_toArray, List.set_cons_zero, List.set_cons_succ, i64_w, i32_w]
                                    rfl
                                  refine done_ (done_of HT_.out (by kernel_rfl)) ?_
                                  try go_wp2
                                  go_ret
                                  exact ⟨by first | rfl | (simp [errW_none, errW_some] <;> rfl) | (simp [*, errW_none, errW_some] <;> rfl), by repeat (first | (with_reducible first | exact HB.out | apply below_alloc | apply pw_below_drewN | apply below_drew1 | refine below_set ?_ GE130.out) | exact HB.out)⟩
                                · rw [if_neg c29] at H
                                  have c29b0 : (((rd_T36 l0_3 x5_3).f0) == ((rd_T36 l0_3 x4_2).f0)) = false := beq_eq_false_iff_ne.mpr c29
                                  have c29b1 : (((rd_T36 l0_3 x5_3).f0) != ((rd_T36 l0_3 x4_2).f0)) = true := bne_iff_ne.mpr c29
                                  have H' := Aside0.mk H
                                  clear H
                                  try go_wp2
                                  have n0_ := Aside0.mk (blk_drew BK130.out)
                                  have n1_ := Aside0.mk (below_drew1 HB.out)
                                  clear BK130
                                  clear HB
                                  have BK130 := n0_
                                  have HB := n1_
                                  clear n0_ n1_
                                  have p134 : 0 ≤ (x5_3 : Int) := of_decide_eq_true (by first | (with_reducible assumption) | assumption)
                                  have q134 : x5_3 < (l0_3.length : Int) := of_decide_eq_true (by first | (with_reducible assumption) | assumption)
                                  obtain ⟨ad134, e134, hx134_0, hx134_1, hx134_2, hx134_3, hx134_4, hx134_5, hx134_6, hx134_7⟩ := at_T36 HR0_3.out x5_3 p134 q134
                                  have hw134_7 := hx134_7
                                  have hw134_6 := hx134_6
                                  have hw134_5 := hx134_5
                                  have hw134_4 := hx134_4
                                  have hw134_3 := hx134_3
                                  have hw134_2 := hx134_2
                                  have hw134_1 := hx134_1
                                  have hw134_0 := hx134_0
                                  obtain rfl : ad131 = ad134 := (by injection e134)
                                  replace hx134_0 := (HB.out.cell (World.block_lt_of_cell? w _ hx134_0)).trans hx134_0
                                  replace hx134_1 := (HB.out.cell (World.block_lt_of_cell? w _ hx134_1)).trans hx134_1
                                  replace hx134_2 := (HB.out.cell (World.block_lt_of_cell? w _ hx134_2)).trans hx134_2
                                  replace hx134_3 := (HB.out.cell (World.block_lt_of_cell? w _ hx134_3)).trans hx134_3
                                  replace hx134_4 := (HB.out.cell (World.block_lt_of_cell? w _ hx134_4)).trans hx134_4
                                  replace hx134_5 := (HB.out.cell (World.block_lt_of_cell? w _ hx134_5)).trans hx134_5
                                  replace hx134_6 := (HB.out.cell (World.block_lt_of_cell? w _ hx134_6)).trans hx134_6
                                  replace hx134_7 := (HB.out.cell (World.block_lt_of_cell? w _ hx134_7)).trans hx134_7
                                  replace p134 := eq_true p134
                                  replace q134 := eq_true q134
                                  have p135 : 0 ≤ (x4_2 : Int) := of_decide_eq_true (by first | (with_reducible assumption) | assumption)
                                  have q135 : x4_2 < (l0_3.length : Int) := of_decide_eq_true (by first | (with_reducible assumption) | assumption)
                                  obtain ⟨ad135, e135, hx135_0, hx135_1, hx135_2, hx135_3, hx135_4, hx135_5, hx135_6, hx135_7⟩ := at_T36 HR0_3.out x4_2 p135 q135
                                  have hw135_7 := hx135_7
                                  have hw135_6 := hx135_6
                                  have hw135_5 := hx135_5
                                  have hw135_4 := hx135_4
                                  have hw135_3 := hx135_3
                                  have hw135_2 := hx135_2
                                  have hw135_1 := hx135_1
                                  have hw135_0 := hx135_0
                                  obtain rfl : ad131 = ad135 := (by injection e135)
                                  replace hx135_0 := (HB.out.cell (World.block_lt_of_cell? w _ hx135_0)).trans hx135_0
                                  replace hx135_1 := (HB.out.cell (World.block_lt_of_cell? w _ hx135_1)).trans hx135_1
                                  replace hx135_2 := (HB.out.cell (World.block_lt_of_cell? w _ hx135_2)).trans hx135_2
                                  replace hx135_3 := (HB.out.cell (World.block_lt_of_cell? w _ hx135_3)).trans hx135_3
                                  replace hx135_4 := (HB.out.cell (World.block_lt_of_cell? w _ hx135_4)).trans hx135_4
                                  replace hx135_5 := (HB.out.cell (World.block_lt_of_cell? w _ hx135_5)).trans hx135_5
                                  replace hx135_6 := (HB.out.cell (World.block_lt_of_cell? w _ hx135_6)).trans hx135_6
                                  replace hx135_7 := (HB.out.cell (World.block_lt_of_cell? w _ hx135_7)).trans hx135_7
                                  replace p135 := eq_true p135
                                  replace q135 := eq_true q135
                                  refine start_ (n := 13) (S := fun w' => w'.cell? ⟨gb130, 0, none⟩ = some (.int .i64 a0_0) ∧ w'.cell? ⟨gb130, 1, none⟩ = some (.int .i64 a0_1) ∧ w'.cell? ⟨gb130, 2, none⟩ = some (.int .u64 a0_2) ∧ w'.cell? ⟨gb130, 3, none⟩ = some (.slice (some ad131) l0_3.length c0_3) ∧ w'.cell? (ad131.add ((x5_3).toNat * 8)) = some (.int .i64 ((rd_T36 l0_3 x5_3).f0)) ∧ w'.cell? ⟨(ad131.add ((x5_3).toNat * 8)).block, (ad131.add ((x5_3).toNat * 8)).off + 1, none⟩ = some (.int .u64 ((rd_T36 l0_3 x5_3).f1)) ∧ w'.cell? ⟨(ad131.add ((x5_3).toNat * 8)).block, (ad131.add ((x5_3).toNat * 8)).off + 2, none⟩ = some (.int .u64 ((rd_T36 l0_3 x5_3).f2)) ∧ w'.cell? ⟨(ad131.add ((x5_3).toNat * 8)).block, (ad131.add ((x5_3).toNat * 8)).off + 3, none⟩ = some (.int .i64 ((rd_T36 l0_3 x5_3).f3)) ∧ w'.cell? ⟨(ad131.add ((x5_3).toNat * 8)).block, (ad131.add ((x5_3).toNat * 8)).off + 4, none⟩ = some (.int .i64 ((rd_T36 l0_3 x5_3).f4)) ∧ w'.cell? ⟨(ad131.add ((x5_3).toNat * 8)).block, (ad131.add ((x5_3).toNat * 8)).off + 5, none⟩ = some (.int .i64 ((rd_T36 l0_3 x5_3).f5)) ∧ w'.cell? ⟨(ad131.add ((x5_3).toNat * 8)).block, (ad131.add ((x5_3).toNat * 8)).off + 6, none⟩ = some (.int .u32 ((rd_T36 l0_3 x5_3).f6)) ∧ w'.cell? ⟨(ad131.add ((x5_3).toNat * 8)).block, (ad131.add ((x5_3).toNat * 8)).off + 7, none⟩ = some (.int .u32 ((rd_T36 l0_3 x5_3).f7)) ∧ w'.cell? (ad131.add ((x4_2).toNat * 8)) = some (.int .i64 ((rd_T36 l0_3 x4_2).f0)) ∧ w'.cell? ⟨(ad131.add ((x4_2).toNat * 8)).block, (ad131.add ((x4_2).toNat * 8)).off + 1, none⟩ = some (.int .u64 ((rd_T36 l0_3 x4_2).f1)) ∧ w'.cell? ⟨(ad131.add ((x4_2).toNat * 8)).block, (ad131.add ((x4_2).toNat * 8)).off + 2, none⟩ = some (.int .u64 ((rd_T36 l0_3 x4_2).f2)) ∧ w'.cell? ⟨(ad131.add ((x4_2).toNat * 8)).block, (ad131.add ((x4_2).toNat * 8)).off + 3, none⟩ = some (.int .i64 ((rd_T36 l0_3 x4_2).f3)) ∧ w'.cell? ⟨(ad131.add ((x4_2).toNat * 8)).block, (ad131.add ((x4_2).toNat * 8)).off + 4, none⟩ = some (.int .i64 ((rd_T36 l0_3 x4_2).f4)) ∧ w'.cell? ⟨(ad131.add ((x4_2).toNat * 8)).block, (ad131.add ((x4_2).toNat * 8)).off + 5, none⟩ = some (.int .i64 ((rd_T36 l0_3 x4_2).f5)) ∧ w'.cell? ⟨(ad131.add ((x4_2).toNat * 8)).block, (ad131.add ((x4_2).toNat * 8)).off + 6, none⟩ = some (.int .u32 ((rd_T36 l0_3 x4_2).f6)) ∧ w'.cell? ⟨(ad131.add ((x4_2).toNat * 8)).block, (ad131.add ((x4_2).toNat * 8)).off + 7, none⟩ = some (.int .u32 ((rd_T36 l0_3 x4_2).f7))) (ds := []) #[false, false, false, false, false, false, false, false, false, false, false, false, false] (by kernel_rfl) rfl rfl ⟨(blk_cell BK130.out 0).trans rfl, (blk_cell BK130.out 1).trans rfl, (blk_cell BK130.out 2).trans rfl, (blk_cell BK130.out 3).trans rfl, ((HB.out.cell (World.block_lt_of_cell? w _ hw134_0)).trans hw134_0), ((HB.out.cell (World.block_lt_of_cell? w _ hw134_1)).trans hw134_1), ((HB.out.cell (World.block_lt_of_cell? w _ hw134_2)).trans hw134_2), ((HB.out.cell (World.block_lt_of_cell? w _ hw134_3)).trans hw134_3), ((HB.out.cell (World.block_lt_of_cell? w _ hw134_4)).trans hw134_4), ((HB.out.cell (World.block_lt_of_cell? w _ hw134_5)).trans hw134_5), ((HB.out.cell (World.block_lt_of_cell? w _ hw134_6)).trans hw134_6), ((HB.out.cell (World.block_lt_of_cell? w _ hw134_7)).trans hw134_7), ((HB.out.cell (World.block_lt_of_cell? w _ hw135_0)).trans hw135_0), ((HB.out.cell (World.block_lt_of_cell? w _ hw135_1)).trans hw135_1), ((HB.out.cell (World.block_lt_of_cell? w _ hw135_2)).trans hw135_2), ((HB.out.cell (World.block_lt_of_cell? w _ hw135_3)).trans hw135_3), ((HB.out.cell (World.block_lt_of_cell? w _ hw135_4)).trans hw135_4), ((HB.out.cell (World.block_lt_of_cell? w _ hw135_5)).trans hw135_5), ((HB.out.cell (World.block_lt_of_cell? w _ hw135_6)).trans hw135_6), ((HB.out.cell (World.block_lt_of_cell? w _ hw135_7)).trans hw135_7)⟩ (fun hHeld => ?_); refine with_tabW strataref12_manifestMay.tab13 strataref12_manifestMay.bits13 (fun HT_ HW_ => ?_)
                                  generalize wr.drew = w31 at BK130 HB hx134_0 hx134_1 hx134_2 hx134_3 hx134_4 hx134_5 hx134_6 hx134_7 hx135_0 hx135_1 hx135_2 hx135_3 hx135_4 hx135_5 hx135_6 hx135_7 hHeld ⊢
                                  refine pure_ (i := 0) (N := some 62) (v := ?_) (a' := ?_) #[true, false, false, false, false, false, false, false, false, false, false, false, false] rfl rfl (any_of HT_.out (by kernel_rfl)) (fun _ _ _ h => h) (Or.inl ⟨by rfl, ?_⟩) ?_ ?_
                                  rotate_left
                                  · intro w'
                                    go_simp
                                    with_reducible rfl
                                  rotate_left
                                  · simp only [Act.put, List.setIfInBounds_toArray, List.set_cons_zero, List.set_cons_succ, i64_w, i32_w]
                                    rfl
                                  refine pure_ (i := 2) (N := some 64) (v := ?_) (a' := ?_) #[true, false, true, false, false, false, false, false, false, false, false, false, false] rfl rfl (any_of HT_.out (by kernel_rfl)) (fun _ _ _ h => h) (Or.inl ⟨by rfl, ?_⟩) ?_ ?_
                                  rotate_left
                                  · intro w'
                                    go_simp
                                    with_reducible rfl
                                  rotate_left
                                  · simp only [Act.put, List.setIfInBounds_toArray, List.set_cons_zero, List.set_cons_succ, i64_w, i32_w]
                                    rfl
                                  refine pure_ (i := 6) (N := some 68) (v := ?_) (a' := ?_) #[true, false, true, false, false, false, true, false, false, false, false, false, false] rfl rfl (any_of HT_.out (by kernel_rfl)) (fun _ _ _ h => h) (Or.inl ⟨by rfl, ?_⟩) ?_ ?_
                                  rotate_left
                                  · intro w'
                                    go_simp
                                    with_reducible rfl
                                  rotate_left
                                  · simp only [Act.put, List.setIfInBounds_toArray, List.set_cons_zero, List.set_cons_succ, i64_w, i32_w]
                                    rfl
                                  refine pure_ (i := 8) (N := some 70) (v := ?_) (a' := ?_) #[true, false, true, false, false, false, true, false, true, false, false, false, false] rfl rfl (any_of HT_.out (by kernel_rfl)) (fun _ _ _ h => h) (Or.inl ⟨by rfl, ?_⟩) ?_ ?_
                                  rotate_left
                                  · intro w'
                                    go_simp
                                    with_reducible rfl
                                  rotate_left
                                  · simp only [Act.put, List.setIfInBounds_toArray, List.set_cons_zero, List.set_cons_succ, i64_w, i32_w]
                                    rfl
                                  refine take_ (i := 1) (N := some 63) (v := ?_) (a' := ?_) #[true, true, true, false, false, false, true, false, true, false, false, false, false] rfl rfl (take_ofW HT_.out HW_.out (by kernel_rfl)) (fun _ _ _ h => h) (Or.inl ⟨by rfl, ?_⟩) hHeld ?_ ?_
                                  rotate_left
                                  · rintro w' ⟨s0, s1, s2, s3, s4, s5, s6, s7, s8, s9, s10, s11, s12, s13, s14, s15, s16, s17, s18, s19⟩
                                    go_simp
                                    with_reducible rfl
                                  rotate_left
                                  · simp only [Act.put, List.setIfInBounds_toArray, List.set_cons_zero, List.set_cons_succ, i64_w, i32_w]
                                    rfl
                                  refine pure_ (i := 3) (N := some 65) (v := ?_) (a' := ?_) #[true, true, true, true, false, false, true, false, true, false, false, false, false] rfl rfl (any_of HT_.out (by kernel_rfl)) (fun _ _ _ h => h) (Or.inl ⟨by rfl, ?_⟩) ?_ ?_
                                  rotate_left
                                  · intro w'
                                    go_simp
                                    with_reducible rfl
                                  rotate_left
                                  · simp only [Act.put, List.setIfInBounds_toArray, List.set_cons_zero, List.set_cons_succ, i64_w, i32_w]
                                    rfl
                                  refine pure_ (i := 4) (N := some 66) (v := ?_) (a' := ?_) #[true, true, true, true, true, false, true, false, true, false, false, false, false] rfl rfl (any_of HT_.out (by kernel_rfl)) (fun _ _ _ h => h) (Or.inl ⟨by rfl, ?_⟩) ?_ ?_
                                  rotate_left
                                  · intro w'
                                    go_simp
                                    with_reducible rfl
                                  rotate_left
                                  · simp only [Act.put, List.setIfInBounds_toArray, List.set_cons_zero, List.set_cons_succ, i64_w, i32_w]
                                    rfl
                                  refine take_ (i := 5) (N := some 67) (v := ?_) (a' := ?_) #[true, true, true, true, true, true, true, false, true, false, false, false, false] rfl rfl (take_ofW HT_.out HW_.out (by kernel_rfl)) (fun _ _ _ h => h) (Or.inl ⟨by rfl, ?_⟩) hHeld ?_ ?_
                                  rotate_left
                                  · rintro w' ⟨s0, s1, s2, s3, s4, s5, s6, s7, s8, s9, s10, s11, s12, s13, s14, s15, s16, s17, s18, s19⟩
                                    go_simp
                                    with_reducible rfl
                                  rotate_left
                                  · simp only [Act.put, List.setIfInBounds_toArray, List.set_cons_zero, List.set_cons_succ, i64_w, i32_w]
                                    rfl
                                  refine take_ (i := 7) (N := some 69) (v := ?_) (a' := ?_) #[true, true, true, true, true, true, true, true, true, false, false, false, false] rfl rfl (take_ofW HT_.out HW_.out (by kernel_rfl)) (fun _ _ _ h => h) (Or.inl ⟨by rfl, ?_⟩) hHeld ?_ ?_
                                  rotate_left
                                  · rintro w' ⟨s0, s1, s2, s3, s4, s5, s6, s7, s8, s9, s10, s11, s12, s13, s14, s15, s16, s17, s18, s19⟩
                                    go_simp
                                    with_reducible rfl
                                  rotate_left
                                  · simp only [Act.put, List.setIfInBounds_toArray, List.set_cons_zero, List.set_cons_succ, i64_w, i32_w]
                                    rfl
                                  refine pure_ (i := 9) (N := some 71) (v := ?_) (a' := ?_) #[true, true, true, true, true, true, true, true, true, true, false, false, false] rfl rfl (any_of HT_.out (by kernel_rfl)) (fun _ _ _ h => h) (Or.inl ⟨by rfl, ?_⟩) ?_ ?_
                                  rotate_left
                                  · intro w'
                                    go_simp
                                    with_reducible rfl
                                  rotate_left
                                  · simp only [Act.put, List.setIfInBounds_toArray, List.set_cons_zero, List.set_cons_succ, i64_w, i32_w]
                                    rfl
                                  refine pure_ (i := 10) (N := some 72) (v := ?_) (a' := ?_) #[true, true, true, true, true, true, true, true, true, true, true, false, false] rfl rfl (any_of HT_.out (by kernel_rfl)) (fun _ _ _ h => h) (Or.inl ⟨by rfl, ?_⟩) ?_ ?_
                                  rotate_left
                                  · intro w'
                                    go_simp
                                    with_reducible rfl
                                  rotate_left
                                  · simp only [Act.put, List.setIfInBounds_toArray, List.set_cons_zero, List.set_cons_succ, i64_w, i32_w]
                                    rfl
                                  refine take_ (i := 11) (N := some 73) (v := ?_) (a' := ?_) #[true, true, true, true, true, true, true, true, true, true, true, true, false] rfl rfl (take_ofW HT_.out HW_.out (by kernel_rfl)) (fun _ _ _ h => h) (Or.inl ⟨by rfl, ?_⟩) hHeld ?_ ?_
                                  rotate_left
                                  · rintro w' ⟨s0, s1, s2, s3, s4, s5, s6, s7, s8, s9, s10, s11, s12, s13, s14, s15, s16, s17, s18, s19⟩
                                    go_simp
                                    with_reducible rfl
                                  rotate_left
                                  · simp only [Act.put, List.setIfInBounds_toArray, List.set_cons_zero, List.set_cons_succ, i64_w, i32_w]
                                    rfl
                                  refine pure_ (i := 12) (N := some 74) (v := ?_) (a' := ?_) #[true, true, true, true, true, true, true, true, true, true, true, true, true] rfl rfl (any_of HT_.out (by kernel_rfl)) (fun _ _ _ h => h) (Or.inl ⟨by rfl, ?_⟩) ?_ ?_
                                  rotate_left
                                  · intro w'
                                    go_simp
                                    with_reducible rfl
                                  rotate_left
                                  · simp only [Act.put, List.setIfInBounds_toArray, List.set_cons_zero, List.set_cons_succ, i64_w, i32_w]
                                    rfl
                                  refine done_ (done_of HT_.out (by kernel_rfl)) ?_
                                  try go_wp2
                                  go_roundg k3
                                  case measure => have := HJ1.out; have := HK2.out; have := HK3.out; omega
                                  case rel => exact ⟨(wrap64 (x5_3 + 1)), (by first | rfl | (simp; done) | (simp [*]; done)), H', ⟨by have := HJ1.out; have := HK2.out; have := HK3.out; omega⟩, ⟨by (with_reducible repeat (first | refine blk_drewN ?_ _ | refine blk_drew ?_ | refine blk_alloc ?_ _)); exact BK130.out⟩, ⟨by repeat (first | (with_reducible first | exact HB.out | apply below_alloc | apply pw_below_drewN | apply below_drew1 | refine below_set ?_ GE130.out) | exact HB.out)⟩⟩
                              · rw [if_neg c28] at H
                                exact absurd H (by simp)
                            · rw [if_neg c27] at H
                              exact absurd H (by simp)
                          · rw [if_neg c26] at H
                            exact absurd H (by simp)
                        · rw [if_neg c25] at H
                          exact absurd H (by simp)
                      · rw [if_neg c24] at H
                        have c24b0 : decide (x5_3 < x4_2) = false := decide_eq_false c24
                        clear c24
                        have H' := Aside0.mk H
                        clear H
                        go_wp2
                        go_roundg k3
                        case measure => have := HJ1.out; have := HK2.out; have := HK3.out; omega
                        case rel => exact ⟨(((rd_T36 l0_3 x4_2).f2)), (wrap64 (x4_2 + 1)), (by first | rfl | (simp; done) | (simp [*]; done)), (by first | rfl | (simp; done) | (simp [*]; done)), H', ⟨by have := HJ1.out; have := HK2.out; have := HK3.out; omega⟩, ⟨by (with_reducible repeat (first | refine blk_drewN ?_ _ | refine blk_drew ?_ | refine blk_alloc ?_ _)); exact BK130.out⟩, ⟨by repeat (first | (with_reducible first | exact HB.out | apply below_alloc | apply pw_below_drewN | apply below_drew1 | refine below_set ?_ GE130.out) | exact HB.out)⟩⟩
                · replace c19 := Bool.eq_false_iff.mpr c19
                  subst c19
                  have H1 : (some false) = some r := by rw [if_neg (show ¬ (false = true) by decide)] at H; exact H
                  clear H
                  have H := H1
                  clear H1
                  obtain rfl := Option.some.inj H
                  have hcz32_0 : wr.cell? ⟨gb130, 0, none⟩ = some (.int .i64 a0_0) := (blk_cell BK130.out 0).trans rfl
                  have hcz32_1 : wr.cell? ⟨gb130, 1, none⟩ = some (.int .i64 a0_1) := (blk_cell BK130.out 1).trans rfl
                  have hcz32_2 : wr.cell? ⟨gb130, 2, none⟩ = some (.int .u64 a0_2) := (blk_cell BK130.out 2).trans rfl
                  have hcz32_3 : wr.cell? ⟨gb130, 3, none⟩ = some (.slice A0_3 l0_3.length c0_3) := (blk_cell BK130.out 3).trans rfl
                  have hfz32_0 := blk_frozen BK130.out 0
                  have hfz32_1 := blk_frozen BK130.out 1
                  have hfz32_2 := blk_frozen BK130.out 2
                  have hfz32_3 := blk_frozen BK130.out 3
                  try go_wp2
                  have n0_ := Aside0.mk (blk_drew BK130.out)
                  have n1_ := Aside0.mk (below_drew1 HB.out)
                  clear BK130
                  clear HB
                  have BK130 := n0_
                  have HB := n1_
                  clear n0_ n1_
                  have p131 : 0 ≤ (x4_2 : Int) := of_decide_eq_true (by first | (with_reducible assumption) | assumption)
                  have q131 : x4_2 < (l0_3.length : Int) := of_decide_eq_true (by first | (with_reducible assumption) | assumption)
                  obtain ⟨ad131, e131, hx131_0, hx131_1, hx131_2, hx131_3, hx131_4, hx131_5, hx131_6, hx131_7⟩ := at_T36 HR0_3.out x4_2 p131 q131
                  have hw131_7 := hx131_7
                  have hw131_6 := hx131_6
                  have hw131_5 := hx131_5
                  have hw131_4 := hx131_4
                  have hw131_3 := hx131_3
                  have hw131_2 := hx131_2
                  have hw131_1 := hx131_1
                  have hw131_0 := hx131_0
                  cases e131
                  replace hx131_0 := (HB.out.cell (World.block_lt_of_cell? w _ hx131_0)).trans hx131_0
                  replace hx131_1 := (HB.out.cell (World.block_lt_of_cell? w _ hx131_1)).trans hx131_1
                  replace hx131_2 := (HB.out.cell (World.block_lt_of_cell? w _ hx131_2)).trans hx131_2
                  replace hx131_3 := (HB.out.cell (World.block_lt_of_cell? w _ hx131_3)).trans hx131_3
                  replace hx131_4 := (HB.out.cell (World.block_lt_of_cell? w _ hx131_4)).trans hx131_4
                  replace hx131_5 := (HB.out.cell (World.block_lt_of_cell? w _ hx131_5)).trans hx131_5
                  replace hx131_6 := (HB.out.cell (World.block_lt_of_cell? w _ hx131_6)).trans hx131_6
                  replace hx131_7 := (HB.out.cell (World.block_lt_of_cell? w _ hx131_7)).trans hx131_7
                  replace p131 := eq_true p131
                  replace q131 := eq_true q131
                  refine start_ (n := 9) (S := fun w' => w'.cell? ⟨gb130, 0, none⟩ = some (.int .i64 a0_0) ∧ w'.cell? ⟨gb130, 1, none⟩ = some (.int .i64 a0_1) ∧ w'.cell? ⟨gb130, 2, none⟩ = some (.int .u64 a0_2) ∧ w'.cell? ⟨gb130, 3, none⟩ = some (.slice (some ad131) l0_3.length c0_3) ∧ w'.cell? (ad131.add ((x4_2).toNat * 8)) = some (.int .i64 ((rd_T36 l0_3 x4_2).f0)) ∧ w'.cell? ⟨(ad131.add ((x4_2).toNat * 8)).block, (ad131.add ((x4_2).toNat * 8)).off + 1, none⟩ = some (.int .u64 ((rd_T36 l0_3 x4_2).f1)) ∧ w'.cell? ⟨(ad131.add ((x4_2).toNat * 8)).block, (ad131.add ((x4_2).toNat * 8)).off + 2, none⟩ = some (.int .u64 ((rd_T36 l0_3 x4_2).f2)) ∧ w'.cell? ⟨(ad131.add ((x4_2).toNat * 8)).block, (ad131.add ((x4_2).toNat * 8)).off + 3, none⟩ = some (.int .i64 ((rd_T36 l0_3 x4_2).f3)) ∧ w'.cell? ⟨(ad131.add ((x4_2).toNat * 8)).block, (ad131.add ((x4_2).toNat * 8)).off + 4, none⟩ = some (.int .i64 ((rd_T36 l0_3 x4_2).f4)) ∧ w'.cell? ⟨(ad131.add ((x4_2).toNat * 8)).block, (ad131.add ((x4_2).toNat * 8)).off + 5, none⟩ = some (.int .i64 ((rd_T36 l0_3 x4_2).f5)) ∧ w'.cell? ⟨(ad131.add ((x4_2).toNat * 8)).block, (ad131.add ((x4_2).toNat * 8)).off + 6, none⟩ = some (.int .u32 ((rd_T36 l0_3 x4_2).f6)) ∧ w'.cell? ⟨(ad131.add ((x4_2).toNat * 8)).block, (ad131.add ((x4_2).toNat * 8)).off + 7, none⟩ = some (.int .u32 ((rd_T36 l0_3 x4_2).f7))) (ds := []) #[false, false, false, false, false, false, false, false, false] (by kernel_rfl) rfl rfl ⟨(blk_cell BK130.out 0).trans rfl, (blk_cell BK130.out 1).trans rfl, (blk_cell BK130.out 2).trans rfl, (blk_cell BK130.out 3).trans rfl, ((HB.out.cell (World.block_lt_of_cell? w _ hw131_0)).trans hw131_0), ((HB.out.cell (World.block_lt_of_cell? w _ hw131_1)).trans hw131_1), ((HB.out.cell (World.block_lt_of_cell? w _ hw131_2)).trans hw131_2), ((HB.out.cell (World.block_lt_of_cell? w _ hw131_3)).trans hw131_3), ((HB.out.cell (World.block_lt_of_cell? w _ hw131_4)).trans hw131_4), ((HB.out.cell (World.block_lt_of_cell? w _ hw131_5)).trans hw131_5), ((HB.out.cell (World.block_lt_of_cell? w _ hw131_6)).trans hw131_6), ((HB.out.cell (World.block_lt_of_cell? w _ hw131_7)).trans hw131_7)⟩ (fun hHeld => ?_); refine with_tabW strataref12_manifestMay.tab7 strataref12_manifestMay.bits7 (fun HT_ HW_ => ?_)
                  generalize wr.drew = w33 at BK130 HB hx131_0 hx131_1 hx131_2 hx131_3 hx131_4 hx131_5 hx131_6 hx131_7 hHeld ⊢
                  refine pure_ (i := 1) (N := some 43) (v := ?_) (a' := ?_) #[false, true, false, false, false, false, false, false, false] rfl rfl (any_of HT_.out (by kernel_rfl)) (fun _ _ _ h => h) (Or.inl ⟨by rfl, ?_⟩) ?_ ?_
                  rotate_left
                  · intro w'
                    go_simp
                    with_reducible rfl
                  rotate_left
                  · simp only [Act.put, List.setIfInBounds_toArray, List.set_cons_zero, List.set_cons_succ, i64_w, i32_w]
                    rfl
                  refine pure_ (i := 3) (N := some 45) (v := ?_) (a' := ?_) #[false, true, false, true, false, false, false, false, false] rfl rfl (any_of HT_.out (by kernel_rfl)) (fun _ _ _ h => h) (Or.inl ⟨by rfl, ?_⟩) ?_ ?_
                  rotate_left
                  · intro w'
                    go_simp
                    with_reducible rfl
                  rotate_left
                  · simp only [Act.put, List.setIfInBounds_toArray, List.set_cons_zero, List.set_cons_succ, i64_w, i32_w]
                    rfl
                  refine pure_ (i := 6) (N := some 48) (v := ?_) (a' := ?_) #[false, true, false, true, false, false, true, false, false] rfl rfl (any_of HT_.out (by kernel_rfl)) (fun _ _ _ h => h) (Or.inl ⟨by rfl, ?_⟩) ?_ ?_
                  rotate_left
                  · intro w'
                    go_simp
                    with_reducible rfl
                  rotate_left
                  · simp only [Act.put, List.setIfInBounds_toArray, List.set_cons_zero, List.set_cons_succ, i64_w, i32_w]
                    rfl
                  refine take_ (i := 0) (N := some 42) (v := ?_) (a' := ?_) #[true, true, false, true, false, false, true, false, false] rfl rfl (take_ofW HT_.out HW_.out (by kernel_rfl)) (fun _ _ _ h => h) (Or.inl ⟨by rfl, ?_⟩) hHeld ?_ ?_
                  rotate_left
                  · rintro w' ⟨s0, s1, s2, s3, s4, s5, s6, s7, s8, s9, s10, s11⟩
                    go_simp
                    with_reducible rfl
                  rotate_left
                  · simp only [Act.put, List.setIfInBounds_toArray, List.set_cons_zero, List.set_cons_succ, i64_w, i32_w]
                    rfl
                  refine take_ (i := 2) (N := some 44) (v := ?_) (a' := ?_) #[true, true, true, true, false, false, true, false, false] rfl rfl (take_ofW HT_.out HW_.out (by kernel_rfl)) (fun _ _ _ h => h) (Or.inl ⟨by rfl, ?_⟩) hHeld ?_ ?_
                  rotate_left
                  · rintro w' ⟨s0, s1, s2, s3, s4, s5, s6, s7, s8, s9, s10, s11⟩
                    go_simp
                    with_reducible rfl
                  rotate_left
                  · simp only [Act.put, List.setIfInBounds_toArray, List.set_cons_zero, List.set_cons_succ, i64_w, i32_w]
                    rfl
                  refine pure_ (i := 4) (N := some 46) (v := ?_) (a' := ?_) #[true, true, true, true, true, false, true, false, false] rfl rfl (any_of HT_.out (by kernel_rfl)) (fun _ _ _ h => h) (Or.inl ⟨by rfl, ?_⟩) ?_ ?_
                  rotate_left
                  · intro w'
                    go_simp
                    with_reducible rfl
                  rotate_left
                  · simp only [Act.put, List.setIfInBounds_toArray, List.set_cons_zero, List.set_cons_succ, i64_w, i32_w]
                    rfl
                  refine take_ (i := 5) (N := some 47) (v := ?_) (a' := ?_) #[true, true, true, true, true, true, true, false, false] rfl rfl (take_ofW HT_.out HW_.out (by kernel_rfl)) (fun _ _ _ h => h) (Or.inl ⟨by rfl, ?_⟩) hHeld ?_ ?_
                  rotate_left
                  · rintro w' ⟨s0, s1, s2, s3, s4, s5, s6, s7, s8, s9, s10, s11⟩
                    go_simp
                    with_reducible rfl
                  rotate_left
                  · simp only [Act.put, List.setIfInBounds_toArray, List.set_cons_zero, List.set_cons_succ, i64_w, i32_w]
                    rfl
                  refine one_ (i := 7) (N := some 49) #[true, true, true, true, true, true, true, true, false] rfl rfl (one_of HT_.out (by kernel_rfl)) (by decide) (fun K hK => ?_)
                  refine goes_ Tryd.func64 (by kernel_rfl) rfl #[.agg #[.int .i64 a0_0, .int .i64 a0_1, .int .u64 a0_2, .slice (some ad131) l0_3.length c0_3], .agg #[.int .i64 ((rd_T36 l0_3 x4_2).f0), .int .u64 ((rd_T36 l0_3 x4_2).f1), .int .u64 ((rd_T36 l0_3 x4_2).f2), .int .i64 ((rd_T36 l0_3 x4_2).f3), .int .i64 ((rd_T36 l0_3 x4_2).f4), .int .i64 ((rd_T36 l0_3 x4_2).f5), .int .u32 ((rd_T36 l0_3 x4_2).f6), .int .u32 ((rd_T36 l0_3 x4_2).f7)], .int .u64 x3_2] (by rfl) rfl rfl (by (try simp only [List.map_toArray, List.map_cons, List.map_nil]); first | done | rfl | (simp only [List.length_drop, List.length_take]; rfl)) ?_
                  with_reducible refine (strataref12_nameMay.calls k2 a0_0 a0_1 a0_2 _ _ l0_3 ((rd_T36 l0_3 x4_2).f0) ((rd_T36 l0_3 x4_2).f1) ((rd_T36 l0_3 x4_2).f2) ((rd_T36 l0_3 x4_2).f3) ((rd_T36 l0_3 x4_2).f4) ((rd_T36 l0_3 x4_2).f5) ((rd_T36 l0_3 x4_2).f6) ((rd_T36 l0_3 x4_2).f7) x3_2 false _ ?side1 ?side2 A18.out).mono ?_
                  (case side1 => repeat (first | exact (Kd.C_below HR0_3.out HB.out) | (with_reducible refine Kd.C_alloc ?_ _) | (with_reducible refine Kd.C_drewN ?_ _) | (with_reducible refine Kd.C_drew ?_)))
                  (case side2 => exact HC0_3.out)
                  rintro e w34 ⟨rfl, hb⟩
                  refine ⟨_, rfl, ?_⟩
                  have n0_ := Aside0.mk (blk_below (g := gb130) (o := .cells #[.int .i64 a0_0, .int .i64 a0_1, .int .u64 a0_2, .slice (some ad131) l0_3.length c0_3] 25 (0, 0)) (by (with_reducible repeat (first | refine blk_drewN ?_ _ | refine blk_drew ?_ | refine blk_alloc ?_ _)); exact BK130.out) hb)
                  have n1_ := Aside0.mk (below_step (by repeat (first | (with_reducible first | exact HB.out | apply below_alloc | apply pw_below_drewN | apply below_drew1 | refine below_set ?_ GE130.out) | exact HB.out)) hb)
                  clear BK130
                  clear HB
                  have BK130 := n0_
                  have HB := n1_
                  clear n0_ n1_
                  (try clear hb)
                  (try clear hb2)
                  (try clear hk)
                  (try clear hi)
                  refine hK.out _ _ ⟨(blk_cell BK130.out 0).trans rfl, (blk_cell BK130.out 1).trans rfl, (blk_cell BK130.out 2).trans rfl, (blk_cell BK130.out 3).trans rfl, ((HB.out.cell (World.block_lt_of_cell? w _ hw131_0)).trans hw131_0), ((HB.out.cell (World.block_lt_of_cell? w _ hw131_1)).trans hw131_1), ((HB.out.cell (World.block_lt_of_cell? w _ hw131_2)).trans hw131_2), ((HB.out.cell (World.block_lt_of_cell? w _ hw131_3)).trans hw131_3), ((HB.out.cell (World.block_lt_of_cell? w _ hw131_4)).trans hw131_4), ((HB.out.cell (World.block_lt_of_cell? w _ hw131_5)).trans hw131_5), ((HB.out.cell (World.block_lt_of_cell? w _ hw131_6)).trans hw131_6), ((HB.out.cell (World.block_lt_of_cell? w _ hw131_7)).trans hw131_7)⟩ (fun hHeld => ?_)
                  clear hK K
                  refine norm_ (a' := ?_) ?_ ?_
                  rotate_left
                  · show Act.put _ (some 49) _ = _
                    simp only [Act.put, List.setIfInBounds_toArray, List.set_cons_zero, List.set_cons_succ, i64_w, i32_w]
                    rfl
                  refine pure_ (i := 8) (N := some 50) (v := ?_) (a' := ?_) #[true, true, true, true, true, true, true, true, true] rfl rfl (any_of HT_.out (by kernel_rfl)) (fun _ _ _ h => h) (Or.inl ⟨by rfl, ?_⟩) ?_ ?_
                  rotate_left
                  · intro w'
                    go_simp
                    with_reducible rfl
                  rotate_left
                  · simp only [Act.put, List.setIfInBounds_toArray, List.set_cons_zero, List.set_cons_succ, i64_w, i32_w]
                    rfl
                  refine done_ (done_of HT_.out (by kernel_rfl)) ?_
                  try go_wp2
                  go_ret
                  exact ⟨by first | rfl | (simp [errW_none, errW_some] <;> rfl) | (simp [*, errW_none, errW_some] <;> rfl), by repeat (first | (with_reducible first | exact HB.out | apply below_alloc | apply pw_below_drewN | apply below_drew1 | refine below_set ?_ GE130.out) | exact HB.out)⟩
              · rw [if_neg c17] at H
                exact absurd H (by simp)
            · rw [if_neg c16] at H
              have c16b0 : decide (x4_2 < (l0_3.length : Int)) = false := decide_eq_false c16
              clear c16
              obtain rfl := Option.some.inj H
              have hcz35_0 : wr.cell? ⟨gb130, 0, none⟩ = some (.int .i64 a0_0) := (blk_cell BK130.out 0).trans rfl
              have hcz35_1 : wr.cell? ⟨gb130, 1, none⟩ = some (.int .i64 a0_1) := (blk_cell BK130.out 1).trans rfl
              have hcz35_2 : wr.cell? ⟨gb130, 2, none⟩ = some (.int .u64 a0_2) := (blk_cell BK130.out 2).trans rfl
              have hcz35_3 : wr.cell? ⟨gb130, 3, none⟩ = some (.slice A0_3 l0_3.length c0_3) := (blk_cell BK130.out 3).trans rfl
              have hfz35_0 := blk_frozen BK130.out 0
              have hfz35_1 := blk_frozen BK130.out 1
              have hfz35_2 := blk_frozen BK130.out 2
              have hfz35_3 := blk_frozen BK130.out 3
              go_wp2
              go_ret
              exact ⟨by first | rfl | (simp [errW_none, errW_some] <;> rfl) | (simp [*, errW_none, errW_some] <;> rfl), by repeat (first | (with_reducible first | exact HB.out | apply below_alloc | apply pw_below_drewN | apply below_drew1 | refine below_set ?_ GE130.out) | exact HB.out)⟩
end Go.Proofs.YtejjidggnnhgjaaDoor.PImg
namespace Go.Proofs.YtejjidggnnhgjaaDoor.PImg
open Go.RowKit Go.Proofs.YtejjidggnnhgjaaDoor.HBase Go.Proofs.YtejjidggnnhgjaaDoor.HBlob Go.Proofs.YtejjidggnnhgjaaDoor.HSum Go.Proofs.YtejjidggnnhgjaaDoor.HUv Go.Proofs.YtejjidggnnhgjaaDoorW.PrintWords Go.Proofs.YtejjidggnnhgjaaDoorW.PrintLast Go.Proofs.YtejjidggnnhgjaaDoorW.PrintMore
attribute [local go_sem] max2_int min2_int max_two min_two max_three min_three max_four min_four   -- for this text's walks alone
set_option linter.unusedVariables false
set_option linter.unusedSimpArgs false
/-! ### strataref12_EncodeManifest: function 9 -/
def strataref12_EncodeManifest.l0 : Nat → List Int → Int → Int → Int → Int → Int → List (S36) → Option (ByteArray × Int)
  | 0, _, _, _, _, _, _, _ => none
  | k + 1, x4, x5, x6, x204000, x204001, x204002, x204003 => if x6 < (x204003.length : Int) then (if 0 ≤ x6 then ((strataref01_Uvarint.f (IntKind.u64.wrap ((rd_T36 x204003 x6).f0))).bind fun t224 => (if x4.length + t224.size < 140737488355328 then ((some (x4 ++ bytesOf t224 : List Int)).bind fun y225 => ((strataref01_Uvarint.f (IntKind.u64.wrap (((rd_T36 x204003 x6).f1) - x5))).bind fun t228 => (if y225.length + t228.size < 140737488355328 then ((some (y225 ++ bytesOf t228 : List Int)).bind fun y229 => ((strataref01_Uvarint.f (IntKind.u64.wrap (((rd_T36 x204003 x6).f2) - ((rd_T36 x204003 x6).f1)))).bind fun t232 => (if y229.length + t232.size < 140737488355328 then ((some (y229 ++ bytesOf t232 : List Int)).bind fun y233 => ((strataref01_Uvarint.f (IntKind.u64.wrap ((rd_T36 x204003 x6).f3))).bind fun t236 => (if y233.length + t236.size < 140737488355328 then ((some (y233 ++ bytesOf t236 : List Int)).bind fun y237 => ((strataref01_Uvarint.f (IntKind.u64.wrap ((rd_T36 x204003 x6).f4))).bind fun t240 => (if y237.length + t240.size < 140737488355328 then ((some (y237 ++ bytesOf t240 : List Int)).bind fun y241 => ((strataref01_Uvarint.f (IntKind.u64.wrap ((rd_T36 x204003 x6).f5))).bind fun t244 => (if y241.length + t244.size < 140737488355328 then ((some (y241 ++ bytesOf t244 : List Int)).bind fun y245 => ((strataref01_Fixed32.f ((rd_T36 x204003 x6).f6)).bind fun t248 => (if y245.length + t248.size < 140737488355328 then ((some (y245 ++ bytesOf t248 : List Int)).bind fun y249 => ((strataref01_Fixed32.f ((rd_T36 x204003 x6).f7)).bind fun t252 => (if y249.length + t252.size < 140737488355328 then (strataref12_EncodeManifest.l0 k (y249 ++ bytesOf t252) ((rd_T36 x204003 x6).f2) (wrap64 (x6 + 1)) x204000 x204001 x204002 x204003) else (none)))) else (none)))) else (none)))) else (none)))) else (none)))) else (none)))) else (none)))) else (none))) else (none)) else ((strataref12_sealed.f k (⟨#[83, 84, 82, 65, 77, 65, 78, 49]⟩ : ByteArray) x4).bind fun t221 => (some (t221, 0)))
def strataref12_EncodeManifest.f (k : Nat) (a0_0 : Int) (a0_1 : Int) (a0_2 : Int) (l0_3 : List (S36)) : Option (ByteArray × Int) := (strataref12_manifestMay.f k a0_0 a0_1 a0_2 l0_3).bind fun t204 => (if t204 = true then ((strataref01_Uvarint.f (IntKind.u64.wrap (a0_0))).bind fun t205 => (if ([] : List Int).length + t205.size < 140737488355328 then ((some (([] : List Int) ++ bytesOf t205 : List Int)).bind fun y206 => ((strataref01_Uvarint.f (IntKind.u64.wrap (a0_1))).bind fun t209 => (if y206.length + t209.size < 140737488355328 then ((some (y206 ++ bytesOf t209 : List Int)).bind fun y210 => ((strataref01_Uvarint.f a0_2).bind fun t213 => (if y210.length + t213.size < 140737488355328 then ((some (y210 ++ bytesOf t213 : List Int)).bind fun y214 => ((strataref01_Uvarint.f (IntKind.u64.wrap ((l0_3.length : Int)))).bind fun t217 => (if y214.length + t217.size < 140737488355328 then (strataref12_EncodeManifest.l0 k (y214 ++ bytesOf t217) 0 0 a0_0 a0_1 a0_2 l0_3) else (none)))) else (none)))) else (none)))) else (none))) else (some ((⟨#[]⟩ : ByteArray), 2)))
set_option maxHeartbeats 8000000 in
set_option maxRecDepth 100000 in
theorem strataref12_EncodeManifest.calls (k : Nat) (a0_0 : Int) (a0_1 : Int) (a0_2 : Int) (A0_3 : Option Addr) (c0_3 : Nat) (l0_3 : List (S36)) (r1 : ByteArray) (r2 : Int) (w : World) (hr0_3 : Kd.C k36 w A0_3 l0_3.length l0_3) (hc0_3 : l0_3.length ≤ c0_3) (h : strataref12_EncodeManifest.f k a0_0 a0_1 a0_2 l0_3 = some (r1, r2)) :
    Calls Tryd.prog 9 #[.agg #[.int .i64 a0_0, .int .i64 a0_1, .int .u64 a0_2, .slice A0_3 l0_3.length c0_3]] w fun e w' => e = .returned (.tuple #[.string r1, .int .i64 r2]) ∧ Below w.heap.size w w' := by
  have hu25 := Tryd.underlying25
  have hu36 := Tryd.underlying36
  have HR0_3 := Aside0.mk hr0_3
  have HC0_3 := Aside0.mk hc0_3
  clear hr0_3 hc0_3
  have HB := Aside0.mk (Below.refl w.heap.size w)
  have H : ((strataref12_manifestMay.f k a0_0 a0_1 a0_2 l0_3).bind fun t204 => (if t204 = true then ((strataref01_Uvarint.f (IntKind.u64.wrap (a0_0))).bind fun t205 => (if ([] : List Int).length + t205.size < 140737488355328 then ((some (([] : List Int) ++ bytesOf t205 : List Int)).bind fun y206 => ((strataref01_Uvarint.f (IntKind.u64.wrap (a0_1))).bind fun t209 => (if y206.length + t209.size < 140737488355328 then ((some (y206 ++ bytesOf t209 : List Int)).bind fun y210 => ((strataref01_Uvarint.f a0_2).bind fun t213 => (if y210.length + t213.size < 140737488355328 then ((some (y210 ++ bytesOf t213 : List Int)).bind fun y214 => ((strataref01_Uvarint.f (IntKind.u64.wrap ((l0_3.length : Int)))).bind fun t217 => (if y214.length + t217.size < 140737488355328 then (strataref12_EncodeManifest.l0 k (y214 ++ bytesOf t217) 0 0 a0_0 a0_1 a0_2 l0_3) else (none)))) else (none)))) else (none)))) else (none))) else (some ((⟨#[]⟩ : ByteArray), 2)))) = some (r1, r2) := h
  clear h
  replace H := Option.bind_eq_some_iff.mp H
  obtain ⟨t204, A20, H⟩ := H
  replace H : (if t204 = true then ((strataref01_Uvarint.f (IntKind.u64.wrap (a0_0))).bind fun t205 => (if ([] : List Int).length + t205.size < 140737488355328 then ((some (([] : List Int) ++ bytesOf t205 : List Int)).bind fun y206 => ((strataref01_Uvarint.f (IntKind.u64.wrap (a0_1))).bind fun t209 => (if y206.length + t209.size < 140737488355328 then ((some (y206 ++ bytesOf t209 : List Int)).bind fun y210 => ((strataref01_Uvarint.f a0_2).bind fun t213 => (if y210.length + t213.size < 140737488355328 then ((some (y210 ++ bytesOf t213 : List Int)).bind fun y214 => ((strataref01_Uvarint.f (IntKind.u64.wrap ((l0_3.length : Int)))).bind fun t217 => (if y214.length + t217.size < 140737488355328 then (strataref12_EncodeManifest.l0 k (y214 ++ bytesOf t217) 0 0 a0_0 a0_1 a0_2 l0_3) else (none)))) else (none)))) else (none)))) else (none))) else (some ((⟨#[]⟩ : ByteArray), 2))) = some (r1, r2) := H
  have A2 := Aside0.mk A20
  clear A20
  by_cases c3 : t204 = true
  · subst c3
    have H1 : ((strataref01_Uvarint.f (IntKind.u64.wrap (a0_0))).bind fun t205 => (if ([] : List Int).length + t205.size < 140737488355328 then ((some (([] : List Int) ++ bytesOf t205 : List Int)).bind fun y206 => ((strataref01_Uvarint.f (IntKind.u64.wrap (a0_1))).bind fun t209 => (if y206.length + t209.size < 140737488355328 then ((some (y206 ++ bytesOf t209 : List Int)).bind fun y210 => ((strataref01_Uvarint.f a0_2).bind fun t213 => (if y210.length + t213.size < 140737488355328 then ((some (y210 ++ bytesOf t213 : List Int)).bind fun y214 => ((strataref01_Uvarint.f (IntKind.u64.wrap ((l0_3.length : Int)))).bind fun t217 => (if y214.length + t217.size < 140737488355328 then (strataref12_EncodeManifest.l0 k (y214 ++ bytesOf t217) 0 0 a0_0 a0_1 a0_2 l0_3) else (none)))) else (none)))) else (none)))) else (none))) = some (r1, r2) := by rw [if_pos rfl] at H; exact H
    clear H
    have H := H1
    clear H1
    replace H := Option.bind_eq_some_iff.mp H
    obtain ⟨t205, A40, H⟩ := H
    replace H : (if ([] : List Int).length + t205.size < 140737488355328 then ((some (([] : List Int) ++ bytesOf t205 : List Int)).bind fun y206 => ((strataref01_Uvarint.f (IntKind.u64.wrap (a0_1))).bind fun t209 => (if y206.length + t209.size < 140737488355328 then ((some (y206 ++ bytesOf t209 : List Int)).bind fun y210 => ((strataref01_Uvarint.f a0_2).bind fun t213 => (if y210.length + t213.size < 140737488355328 then ((some (y210 ++ bytesOf t213 : List Int)).bind fun y214 => ((strataref01_Uvarint.f (IntKind.u64.wrap ((l0_3.length : Int)))).bind fun t217 => (if y214.length + t217.size < 140737488355328 then (strataref12_EncodeManifest.l0 k (y214 ++ bytesOf t217) 0 0 a0_0 a0_1 a0_2 l0_3) else (none)))) else (none)))) else (none)))) else (none)) = some (r1, r2) := H
    have A4 := Aside0.mk A40
    clear A40
    by_cases c5 : ([] : List Int).length + t205.size < 140737488355328
    · rw [if_pos c5] at H
      have LMc5 := Aside0.mk c5
      clear c5
      obtain ⟨y206, hy206⟩ : ∃ y_ : List Int, y_ = (([] : List Int) ++ bytesOf t205) := ⟨_, rfl⟩
      replace H : ((strataref01_Uvarint.f (IntKind.u64.wrap (a0_1))).bind fun t209 => (if y206.length + t209.size < 140737488355328 then ((some (y206 ++ bytesOf t209 : List Int)).bind fun y210 => ((strataref01_Uvarint.f a0_2).bind fun t213 => (if y210.length + t213.size < 140737488355328 then ((some (y210 ++ bytesOf t213 : List Int)).bind fun y214 => ((strataref01_Uvarint.f (IntKind.u64.wrap ((l0_3.length : Int)))).bind fun t217 => (if y214.length + t217.size < 140737488355328 then (strataref12_EncodeManifest.l0 k (y214 ++ bytesOf t217) 0 0 a0_0 a0_1 a0_2 l0_3) else (none)))) else (none)))) else (none))) = some (r1, r2) := by first | (rw [hy206]; with_reducible exact H) | (have H2_ := (Option.bind_some _ _).symm.trans H; rw [hy206]; with_reducible exact H2_) | (have H2_ := (Option.bind_some _ _).symm.trans H; with_reducible exact H2_) | with_reducible exact H | (rw [hy206]; exact H) | exact H
      have Ny206 := Aside0.mk hy206
      clear hy206
      replace H := Option.bind_eq_some_iff.mp H
      obtain ⟨t209, A60, H⟩ := H
      replace H : (if y206.length + t209.size < 140737488355328 then ((some (y206 ++ bytesOf t209 : List Int)).bind fun y210 => ((strataref01_Uvarint.f a0_2).bind fun t213 => (if y210.length + t213.size < 140737488355328 then ((some (y210 ++ bytesOf t213 : List Int)).bind fun y214 => ((strataref01_Uvarint.f (IntKind.u64.wrap ((l0_3.length : Int)))).bind fun t217 => (if y214.length + t217.size < 140737488355328 then (strataref12_EncodeManifest.l0 k (y214 ++ bytesOf t217) 0 0 a0_0 a0_1 a0_2 l0_3) else (none)))) else (none)))) else (none)) = some (r1, r2) := H
      have A6 := Aside0.mk A60
      clear A60
      by_cases c7 : y206.length + t209.size < 140737488355328
      · rw [if_pos c7] at H
        have LMc7 := Aside0.mk c7
        clear c7
        obtain ⟨y210, hy210⟩ : ∃ y_ : List Int, y_ = (y206 ++ bytesOf t209) := ⟨_, rfl⟩
        replace H : ((strataref01_Uvarint.f a0_2).bind fun t213 => (if y210.length + t213.size < 140737488355328 then ((some (y210 ++ bytesOf t213 : List Int)).bind fun y214 => ((strataref01_Uvarint.f (IntKind.u64.wrap ((l0_3.length : Int)))).bind fun t217 => (if y214.length + t217.size < 140737488355328 then (strataref12_EncodeManifest.l0 k (y214 ++ bytesOf t217) 0 0 a0_0 a0_1 a0_2 l0_3) else (none)))) else (none))) = some (r1, r2) := by first | (rw [hy210]; with_reducible exact H) | (have H2_ := (Option.bind_some _ _).symm.trans H; rw [hy210]; with_reducible exact H2_) | (have H2_ := (Option.bind_some _ _).symm.trans H; with_reducible exact H2_) | with_reducible exact H | (rw [hy210]; exact H) | exact H
        have Ny210 := Aside0.mk hy210
        clear hy210
        replace H := Option.bind_eq_some_iff.mp H
        obtain ⟨t213, A80, H⟩ := H
        replace H : (if y210.length + t213.size < 140737488355328 then ((some (y210 ++ bytesOf t213 : List Int)).bind fun y214 => ((strataref01_Uvarint.f (IntKind.u64.wrap ((l0_3.length : Int)))).bind fun t217 => (if y214.length + t217.size < 140737488355328 then (strataref12_EncodeManifest.l0 k (y214 ++ bytesOf t217) 0 0 a0_0 a0_1 a0_2 l0_3) else (none)))) else (none)) = some (r1, r2) := H
        have A8 := Aside0.mk A80
        clear A80
        by_cases c9 : y210.length + t213.size < 140737488355328
        · rw [if_pos c9] at H
          have LMc9 := Aside0.mk c9
          clear c9
          obtain ⟨y214, hy214⟩ : ∃ y_ : List Int, y_ = (y210 ++ bytesOf t213) := ⟨_, rfl⟩
          replace H : ((strataref01_Uvarint.f (IntKind.u64.wrap ((l0_3.length : Int)))).bind fun t217 => (if y214.length + t217.size < 140737488355328 then (strataref12_EncodeManifest.l0 k (y214 ++ bytesOf t217) 0 0 a0_0 a0_1 a0_2 l0_3) else (none))) = some (r1, r2) := by first | (rw [hy214]; with_reducible exact H) | (have H2_ := (Option.bind_some _ _).symm.trans H; rw [hy214]; with_reducible exact H2_) | (have H2_ := (Option.bind_some _ _).symm.trans H; with_reducible exact H2_) | with_reducible exact H | (rw [hy214]; exact H) | exact H
          have Ny214 := Aside0.mk hy214
          clear hy214
          replace H := Option.bind_eq_some_iff.mp H
          obtain ⟨t217, A100, H⟩ := H
          replace H : (if y214.length + t217.size < 140737488355328 then (strataref12_EncodeManifest.l0 k (y214 ++ bytesOf t217) 0 0 a0_0 a0_1 a0_2 l0_3) else (none)) = some (r1, r2) := H
          have A10 := Aside0.mk A100
          clear A100
          by_cases c11 : y214.length + t217.size < 140737488355328
          · rw [if_pos c11] at H
            have LMc11 := Aside0.mk c11
            clear c11
            obtain ⟨y218, hy218⟩ : ∃ y_ : List Int, y_ = (y214 ++ bytesOf t217) := ⟨_, rfl⟩
            replace H : (strataref12_EncodeManifest.l0 k y218 0 0 a0_0 a0_1 a0_2 l0_3) = some (r1, r2) := by first | (rw [hy218]; with_reducible exact H) | (have H2_ := (Option.bind_some _ _).symm.trans H; rw [hy218]; with_reducible exact H2_) | (have H2_ := (Option.bind_some _ _).symm.trans H; with_reducible exact H2_) | with_reducible exact H | (rw [hy218]; exact H) | exact H
            have Ny218 := Aside0.mk hy218
            clear hy218
            have H' := Aside0.mk H
            clear H
            go_enter Tryd.func9, Tryd.ntmps9
            go_wp2_with (first | ((with_reducible refine gate_dst (N := 1) rfl ?_); refine box_event ?hg (N := 1) ?hd (cs := #[.int .i64 a0_0, .int .i64 a0_1, .int .u64 a0_2, .slice A0_3 l0_3.length c0_3]) (t := 25) ?hr ?_; (case hd => rfl); (case hg => rfl); (case hr => first | (go_simp; done) | (go_simp; rfl)); intro gb203 hg w12 hbox hb; have n0_ := Aside0.mk (below_step (by repeat (first | (with_reducible first | exact HB.out | apply below_alloc | apply pw_below_drewN | apply below_drew1) | exact HB.out)) hb); have n1_ := Aside0.mk (hbox); have n2_ := Aside0.mk ((by rw [hg]; exact (below_size (by repeat (first | (with_reducible first | exact HB.out | apply below_alloc | apply pw_below_drewN | apply below_drew1) | exact HB.out))) : w.heap.size ≤ gb203)); have n3_ := Aside0.mk ((by rw [hg]; exact (below_size (by repeat (first | (with_reducible first | exact HB.out | apply below_alloc | apply pw_below_drewN | apply below_drew1) | exact HB.out))) : w.heap.size ≤ gb203)); clear HB; have HB := n0_; have BK203 := n1_; have GW203 := n2_; have GE203 := n3_; clear n0_ n1_ n2_ n3_; clear hb hbox hg; have hcz13_0 : w12.cell? ⟨gb203, 0, none⟩ = some (.int .i64 a0_0) := (blk_cell BK203.out 0).trans rfl; have hcz13_1 : w12.cell? ⟨gb203, 1, none⟩ = some (.int .i64 a0_1) := (blk_cell BK203.out 1).trans rfl; have hcz13_2 : w12.cell? ⟨gb203, 2, none⟩ = some (.int .u64 a0_2) := (blk_cell BK203.out 2).trans rfl; have hcz13_3 : w12.cell? ⟨gb203, 3, none⟩ = some (.slice A0_3 l0_3.length c0_3) := (blk_cell BK203.out 3).trans rfl; have hfz13_0 := blk_frozen BK203.out 0; have hfz13_1 := blk_frozen BK203.out 1; have hfz13_2 := blk_frozen BK203.out 2; have hfz13_3 := blk_frozen BK203.out 3) | ((with_reducible refine gate_callee (f := 34) rfl ?_); refine goesL_ (some 9) rfl rfl Tryd.func34 (by kernel_rfl) rfl #[.agg #[.int .i64 a0_0, .int .i64 a0_1, .int .u64 a0_2, .slice A0_3 l0_3.length c0_3]] rfl (by (try simp only [List.map_toArray, List.map_cons, List.map_nil]); first | done | rfl | (simp only [List.length_drop, List.length_take]; rfl)) ?_; (with_reducible refine (strataref12_manifestMay.calls k a0_0 a0_1 a0_2 _ _ l0_3 true _ ?side1 ?side2 A2.out).mono ?_); (case side1 => repeat (first | exact (Kd.C_below HR0_3.out HB.out) | (with_reducible refine Kd.C_alloc ?_ _) | (with_reducible refine Kd.C_drewN ?_ _) | (with_reducible refine Kd.C_drew ?_))); (case side2 => exact HC0_3.out); rintro e w14 ⟨rfl, hb⟩; refine ⟨_, rfl, ?_⟩; have n0_ := Aside0.mk (blk_below (g := gb203) (o := .cells #[.int .i64 a0_0, .int .i64 a0_1, .int .u64 a0_2, .slice A0_3 l0_3.length c0_3] 25 (0, 0)) (by (with_reducible repeat (first | refine blk_drewN ?_ _ | refine blk_drew ?_ | refine blk_alloc ?_ _)); exact BK203.out) hb); have n1_ := Aside0.mk (below_step (by repeat (first | (with_reducible first | exact HB.out | apply below_alloc | apply pw_below_drewN | apply below_drew1 | refine below_set ?_ GE203.out) | exact HB.out)) hb); clear BK203; clear HB; have BK203 := n0_; have HB := n1_; clear n0_ n1_; (try clear hb); (try clear hb2); (try clear hk); (try clear hi); have hcz15_0 : w14.cell? ⟨gb203, 0, none⟩ = some (.int .i64 a0_0) := (blk_cell BK203.out 0).trans rfl; have hcz15_1 : w14.cell? ⟨gb203, 1, none⟩ = some (.int .i64 a0_1) := (blk_cell BK203.out 1).trans rfl; have hcz15_2 : w14.cell? ⟨gb203, 2, none⟩ = some (.int .u64 a0_2) := (blk_cell BK203.out 2).trans rfl; have hcz15_3 : w14.cell? ⟨gb203, 3, none⟩ = some (.slice A0_3 l0_3.length c0_3) := (blk_cell BK203.out 3).trans rfl; have hfz15_0 := blk_frozen BK203.out 0; have hfz15_1 := blk_frozen BK203.out 1; have hfz15_2 := blk_frozen BK203.out 2; have hfz15_3 := blk_frozen BK203.out 3) | ((with_reducible refine gate_callee (f := 35) rfl ?_); refine goesL_ (some 15) rfl rfl Tryd.func35 (by kernel_rfl) rfl #[.int .u64 (IntKind.u64.wrap (a0_0))] rfl (by (try simp only [List.map_toArray, List.map_cons, List.map_nil]); first | done | rfl | (simp only [List.length_drop, List.length_take]; rfl)) ?_; (with_reducible refine (strataref01_Uvarint.calls (IntKind.u64.wrap (a0_0)) t205 _ A4.out).mono ?_); rintro e w16 ⟨rfl, hb⟩; refine ⟨_, rfl, ?_⟩; have n0_ := Aside0.mk (blk_below (g := gb203) (o := .cells #[.int .i64 a0_0, .int .i64 a0_1, .int .u64 a0_2, .slice A0_3 l0_3.length c0_3] 25 (0, 0)) (by (with_reducible repeat (first | refine blk_drewN ?_ _ | refine blk_drew ?_ | refine blk_alloc ?_ _)); exact BK203.out) hb); have n1_ := Aside0.mk (below_step (by repeat (first | (with_reducible first | exact HB.out | apply below_alloc | apply pw_below_drewN | apply below_drew1 | refine below_set ?_ GE203.out) | exact HB.out)) hb); clear BK203; clear HB; have BK203 := n0_; have HB := n1_; clear n0_ n1_; (try clear hb); (try clear hb2); (try clear hk); (try clear hi)) | (at_builtin; refine print_append_str (w0 := w) w.heap.size rfl (.tmp 11) _ 72 9 5 rfl Tryd.underlying72 Tryd.underlying9 info5 (.slice none 0 0) ([] : List Int) t205 rfl rfl ?aO ?aB ?aS ?aL ?_; (case aB => exact (by repeat (first | (with_reducible first | exact HB.out | apply below_alloc | apply pw_below_drewN | apply below_drew1 | refine below_set ?_ GE203.out) | exact HB.out))); (case aO => exact (Kd.own_of_R (enc := Value.int .u8) (h1 := fun _ => rfl) (Kd.R_nil _ _ _ _ (fun _ => True)))); (case aS => exact (below_size (by repeat (first | (with_reducible first | exact HB.out | apply below_alloc | apply pw_below_drewN | apply below_drew1 | refine below_set ?_ GE203.out) | exact HB.out)))); (case aL => have := LMc5.out; omega); intro v207 w17 ho0 hb hg; have ho := Kd.R_of_own (enc := Value.int .u8) (h1 := fun _ => rfl) (ok := fun _ => True) ho0 (fun _ _ => trivial); clear ho0; have hat := True.intro; rw [← Ny206.out] at ho; change Kd.R (Kd.int .u8) 5 w17 w.heap.size (fun _ => True) v207 y206 at ho; have n0_ := Aside0.mk (blk_grown (g := gb203) (o := .cells #[.int .i64 a0_0, .int .i64 a0_1, .int .u64 a0_2, .slice A0_3 l0_3.length c0_3] 25 (0, 0)) (by (with_reducible repeat (first | refine blk_drewN ?_ _ | refine blk_drew ?_ | refine blk_alloc ?_ _)); exact BK203.out) hg (by simp [Value.ownBlock])); have n1_ := Aside0.mk (hb); have n2_ := Aside0.mk (ho); clear BK203; clear HB; have BK203 := n0_; have HB := n1_; have HO208 := n2_; clear n0_ n1_ n2_; clear ho hb hg hat; have hcz18_0 : w17.cell? ⟨gb203, 0, none⟩ = some (.int .i64 a0_0) := (blk_cell BK203.out 0).trans rfl; have hcz18_1 : w17.cell? ⟨gb203, 1, none⟩ = some (.int .i64 a0_1) := (blk_cell BK203.out 1).trans rfl; have hcz18_2 : w17.cell? ⟨gb203, 2, none⟩ = some (.int .u64 a0_2) := (blk_cell BK203.out 2).trans rfl; have hcz18_3 : w17.cell? ⟨gb203, 3, none⟩ = some (.slice A0_3 l0_3.length c0_3) := (blk_cell BK203.out 3).trans rfl; have hfz18_0 := blk_frozen BK203.out 0; have hfz18_1 := blk_frozen BK203.out 1; have hfz18_2 := blk_frozen BK203.out 2; have hfz18_3 := blk_frozen BK203.out 3) | ((with_reducible refine gate_callee (f := 35) rfl ?_); refine goesL_ (some 21) rfl rfl Tryd.func35 (by kernel_rfl) rfl #[.int .u64 (IntKind.u64.wrap (a0_1))] rfl (by (try simp only [List.map_toArray, List.map_cons, List.map_nil]); first | done | rfl | (simp only [List.length_drop, List.length_take]; rfl)) ?_; (with_reducible refine (strataref01_Uvarint.calls (IntKind.u64.wrap (a0_1)) t209 _ A6.out).mono ?_); rintro e w19 ⟨rfl, hb⟩; refine ⟨_, rfl, ?_⟩; have n0_ := Aside0.mk (Kd.R_below (by (with_reducible repeat (first | apply Kd.R_alloc | apply Kd.R_drewN | apply Kd.R_drew)); exact HO208.out) hb); have n1_ := Aside0.mk (blk_below (g := gb203) (o := .cells #[.int .i64 a0_0, .int .i64 a0_1, .int .u64 a0_2, .slice A0_3 l0_3.length c0_3] 25 (0, 0)) (by (with_reducible repeat (first | refine blk_drewN ?_ _ | refine blk_drew ?_ | refine blk_alloc ?_ _)); exact BK203.out) hb); have n2_ := Aside0.mk (below_step (by repeat (first | (with_reducible first | exact HB.out | apply below_alloc | apply pw_below_drewN | apply below_drew1 | refine below_set ?_ GE203.out) | exact HB.out)) hb); clear HO208; clear BK203; clear HB; have HO208 := n0_; have BK203 := n1_; have HB := n2_; clear n0_ n1_ n2_; (try clear hb); (try clear hb2); (try clear hk); (try clear hi)) | (at_builtin; refine print_append_str (w0 := w) w.heap.size rfl (.tmp 17) _ 72 9 5 rfl Tryd.underlying72 Tryd.underlying9 info5 v207 y206 t209 rfl rfl ?aO ?aB ?aS ?aL ?_; (case aB => exact (by repeat (first | (with_reducible first | exact HB.out | apply below_alloc | apply pw_below_drewN | apply below_drew1 | refine below_set ?_ GE203.out) | exact HB.out))); (case aO => exact (Kd.own_of_R (by (with_reducible repeat (first | apply Kd.R_alloc | apply Kd.R_drewN | apply Kd.R_drew)); exact HO208.out))); (case aS => exact (below_size (by repeat (first | (with_reducible first | exact HB.out | apply below_alloc | apply pw_below_drewN | apply below_drew1 | refine below_set ?_ GE203.out) | exact HB.out)))); (case aL => have := LMc7.out; omega); intro v211 w20 ho0 hb hg; have ho := Kd.R_of_own (enc := Value.int .u8) (h1 := fun _ => rfl) (ok := fun _ => True) ho0 (fun _ _ => trivial); clear ho0; have hat := True.intro; rw [← Ny210.out] at ho; change Kd.R (Kd.int .u8) 5 w20 w.heap.size (fun _ => True) v211 y210 at ho; have n0_ := Aside0.mk (blk_grown (g := gb203) (o := .cells #[.int .i64 a0_0, .int .i64 a0_1, .int .u64 a0_2, .slice A0_3 l0_3.length c0_3] 25 (0, 0)) (by (with_reducible repeat (first | refine blk_drewN ?_ _ | refine blk_drew ?_ | refine blk_alloc ?_ _)); exact BK203.out) hg (Kd.R_ne HO208.out BK203.out (by decide))); have n1_ := Aside0.mk (hb); have n2_ := Aside0.mk (ho); clear BK203; clear HB; clear HO208; have BK203 := n0_; have HB := n1_; have HO212 := n2_; clear n0_ n1_ n2_; clear ho hb hg hat; have hcz21_0 : w20.cell? ⟨gb203, 0, none⟩ = some (.int .i64 a0_0) := (blk_cell BK203.out 0).trans rfl; have hcz21_1 : w20.cell? ⟨gb203, 1, none⟩ = some (.int .i64 a0_1) := (blk_cell BK203.out 1).trans rfl; have hcz21_2 : w20.cell? ⟨gb203, 2, none⟩ = some (.int .u64 a0_2) := (blk_cell BK203.out 2).trans rfl; have hcz21_3 : w20.cell? ⟨gb203, 3, none⟩ = some (.slice A0_3 l0_3.length c0_3) := (blk_cell BK203.out 3).trans rfl; have hfz21_0 := blk_frozen BK203.out 0; have hfz21_1 := blk_frozen BK203.out 1; have hfz21_2 := blk_frozen BK203.out 2; have hfz21_3 := blk_frozen BK203.out 3) | ((with_reducible refine gate_callee (f := 35) rfl ?_); refine goesL_ (some 26) rfl rfl Tryd.func35 (by kernel_rfl) rfl #[.int .u64 a0_2] rfl (by (try simp only [List.map_toArray, List.map_cons, List.map_nil]); first | done | rfl | (simp only [List.length_drop, List.length_take]; rfl)) ?_; (with_reducible refine (strataref01_Uvarint.calls a0_2 t213 _ A8.out).mono ?_); rintro e w22 ⟨rfl, hb⟩; refine ⟨_, rfl, ?_⟩; have n0_ := Aside0.mk (Kd.R_below (by (with_reducible repeat (first | apply Kd.R_alloc | apply Kd.R_drewN | apply Kd.R_drew)); exact HO212.out) hb); have n1_ := Aside0.mk (blk_below (g := gb203) (o := .cells #[.int .i64 a0_0, .int .i64 a0_1, .int .u64 a0_2, .slice A0_3 l0_3.length c0_3] 25 (0, 0)) (by (with_reducible repeat (first | refine blk_drewN ?_ _ | refine blk_drew ?_ | refine blk_alloc ?_ _)); exact BK203.out) hb); have n2_ := Aside0.mk (below_step (by repeat (first | (with_reducible first | exact HB.out | apply below_alloc | apply pw_below_drewN | apply below_drew1 | refine below_set ?_ GE203.out) | exact HB.out)) hb); clear HO212; clear BK203; clear HB; have HO212 := n0_; have BK203 := n1_; have HB := n2_; clear n0_ n1_ n2_; (try clear hb); (try clear hb2); (try clear hk); (try clear hi)) | (at_builtin; refine print_append_str (w0 := w) w.heap.size rfl (.tmp 23) _ 72 9 5 rfl Tryd.underlying72 Tryd.underlying9 info5 v211 y210 t213 rfl rfl ?aO ?aB ?aS ?aL ?_; (case aB => exact (by repeat (first | (with_reducible first | exact HB.out | apply below_alloc | apply pw_below_drewN | apply below_drew1 | refine below_set ?_ GE203.out) | exact HB.out))); (case aO => exact (Kd.own_of_R (by (with_reducible repeat (first | apply Kd.R_alloc | apply Kd.R_drewN | apply Kd.R_drew)); exact HO212.out))); (case aS => exact (below_size (by repeat (first | (with_reducible first | exact HB.out | apply below_alloc | apply pw_below_drewN | apply below_drew1 | refine below_set ?_ GE203.out) | exact HB.out)))); (case aL => have := LMc9.out; omega); intro v215 w23 ho0 hb hg; have ho := Kd.R_of_own (enc := Value.int .u8) (h1 := fun _ => rfl) (ok := fun _ => True) ho0 (fun _ _ => trivial); clear ho0; have hat := True.intro; rw [← Ny214.out] at ho; change Kd.R (Kd.int .u8) 5 w23 w.heap.size (fun _ => True) v215 y214 at ho; have n0_ := Aside0.mk (blk_grown (g := gb203) (o := .cells #[.int .i64 a0_0, .int .i64 a0_1, .int .u64 a0_2, .slice A0_3 l0_3.length c0_3] 25 (0, 0)) (by (with_reducible repeat (first | refine blk_drewN ?_ _ | refine blk_drew ?_ | refine blk_alloc ?_ _)); exact BK203.out) hg (Kd.R_ne HO212.out BK203.out (by decide))); have n1_ := Aside0.mk (hb); have n2_ := Aside0.mk (ho); clear BK203; clear HB; clear HO212; have BK203 := n0_; have HB := n1_; have HO216 := n2_; clear n0_ n1_ n2_; clear ho hb hg hat; have hcz24_0 : w23.cell? ⟨gb203, 0, none⟩ = some (.int .i64 a0_0) := (blk_cell BK203.out 0).trans rfl; have hcz24_1 : w23.cell? ⟨gb203, 1, none⟩ = some (.int .i64 a0_1) := (blk_cell BK203.out 1).trans rfl; have hcz24_2 : w23.cell? ⟨gb203, 2, none⟩ = some (.int .u64 a0_2) := (blk_cell BK203.out 2).trans rfl; have hcz24_3 : w23.cell? ⟨gb203, 3, none⟩ = some (.slice A0_3 l0_3.length c0_3) := (blk_cell BK203.out 3).trans rfl; have hfz24_0 := blk_frozen BK203.out 0; have hfz24_1 := blk_frozen BK203.out 1; have hfz24_2 := blk_frozen BK203.out 2; have hfz24_3 := blk_frozen BK203.out 3) | ((with_reducible refine gate_callee (f := 35) rfl ?_); refine goesL_ (some 33) rfl rfl Tryd.func35 (by kernel_rfl) rfl #[.int .u64 (IntKind.u64.wrap ((l0_3.length : Int)))] rfl (by (try simp only [List.map_toArray, List.map_cons, List.map_nil]); first | done | rfl | (simp only [List.length_drop, List.length_take]; rfl)) ?_; (with_reducible refine (strataref01_Uvarint.calls (IntKind.u64.wrap ((l0_3.length : Int))) t217 _ A10.out).mono ?_); rintro e w25 ⟨rfl, hb⟩; refine ⟨_, rfl, ?_⟩; have n0_ := Aside0.mk (Kd.R_below (by (with_reducible repeat (first | apply Kd.R_alloc | apply Kd.R_drewN | apply Kd.R_drew)); exact HO216.out) hb); have n1_ := Aside0.mk (blk_below (g := gb203) (o := .cells #[.int .i64 a0_0, .int .i64 a0_1, .int .u64 a0_2, .slice A0_3 l0_3.length c0_3] 25 (0, 0)) (by (with_reducible repeat (first | refine blk_drewN ?_ _ | refine blk_drew ?_ | refine blk_alloc ?_ _)); exact BK203.out) hb); have n2_ := Aside0.mk (below_step (by repeat (first | (with_reducible first | exact HB.out | apply below_alloc | apply pw_below_drewN | apply below_drew1 | refine below_set ?_ GE203.out) | exact HB.out)) hb); clear HO216; clear BK203; clear HB; have HO216 := n0_; have BK203 := n1_; have HB := n2_; clear n0_ n1_ n2_; (try clear hb); (try clear hb2); (try clear hk); (try clear hi)) | (at_builtin; refine print_append_str (w0 := w) w.heap.size rfl (.tmp 28) _ 72 9 5 rfl Tryd.underlying72 Tryd.underlying9 info5 v215 y214 t217 rfl rfl ?aO ?aB ?aS ?aL ?_; (case aB => exact (by repeat (first | (with_reducible first | exact HB.out | apply below_alloc | apply pw_below_drewN | apply below_drew1 | refine below_set ?_ GE203.out) | exact HB.out))); (case aO => exact (Kd.own_of_R (by (with_reducible repeat (first | apply Kd.R_alloc | apply Kd.R_drewN | apply Kd.R_drew)); exact HO216.out))); (case aS => exact (below_size (by repeat (first | (with_reducible first | exact HB.out | apply below_alloc | apply pw_below_drewN | apply below_drew1 | refine below_set ?_ GE203.out) | exact HB.out)))); (case aL => have := LMc11.out; omega); intro v219 w26 ho0 hb hg; have ho := Kd.R_of_own (enc := Value.int .u8) (h1 := fun _ => rfl) (ok := fun _ => True) ho0 (fun _ _ => trivial); clear ho0; have hat := True.intro; rw [← Ny218.out] at ho; change Kd.R (Kd.int .u8) 5 w26 w.heap.size (fun _ => True) v219 y218 at ho; have n0_ := Aside0.mk (blk_grown (g := gb203) (o := .cells #[.int .i64 a0_0, .int .i64 a0_1, .int .u64 a0_2, .slice A0_3 l0_3.length c0_3] 25 (0, 0)) (by (with_reducible repeat (first | refine blk_drewN ?_ _ | refine blk_drew ?_ | refine blk_alloc ?_ _)); exact BK203.out) hg (Kd.R_ne HO216.out BK203.out (by decide))); have n1_ := Aside0.mk (hb); have n2_ := Aside0.mk (ho); clear BK203; clear HB; clear HO216; have BK203 := n0_; have HB := n1_; have HO220 := n2_; clear n0_ n1_ n2_; clear ho hb hg hat))
            go_loopg [4, 5, 6] k (fun kq v4 v5 v6 w' => ∃ (x4_1 : List Int) (x5_1 : Int) (x6_1 : Int), v5 = .int .u64 x5_1 ∧ v6 = .int .i64 x6_1 ∧ Aside0 (strataref12_EncodeManifest.l0 kq x4_1 x5_1 x6_1 a0_0 a0_1 a0_2 l0_3 = some (r1, r2)) ∧ Aside0 (kq ≤ k) ∧ Aside0 (Kd.R (Kd.int .u8) 5 w' w.heap.size (fun _ => True) v4 x4_1) ∧ Aside0 (w'.heap[gb203]? = some (.cells #[.int .i64 a0_0, .int .i64 a0_1, .int .u64 a0_2, (.slice A0_3 l0_3.length c0_3)] 25 (0, 0))) ∧ Aside0 (Below w.heap.size w w'))
            case atStart => exact ⟨(y218), (0), (0), (by first | rfl | (simp; done) | (simp [*]; done)), (by first | rfl | (simp; done) | (simp [*]; done)), H', ⟨Nat.le_refl _⟩, ⟨by (with_reducible repeat (first | apply Kd.R_alloc | apply Kd.R_drewN | apply Kd.R_drew)); exact HO220.out⟩, ⟨by (with_reducible repeat (first | refine blk_drewN ?_ _ | refine blk_drew ?_ | refine blk_alloc ?_ _)); exact BK203.out⟩, ⟨by repeat (first | (with_reducible first | exact HB.out | apply below_alloc | apply pw_below_drewN | apply below_drew1 | refine below_set ?_ GE203.out) | exact HB.out)⟩⟩
            case round =>
              clear H'
              try clear c1
              try clear p2
              try clear c3
              try clear c5
              try clear c7
              try clear c9
              try clear c11
              try clear hcz13_0
              try clear hcz13_1
              try clear hcz13_2
              try clear hcz13_3
              try clear hcz15_0
              try clear hcz15_1
              try clear hcz15_2
              try clear hcz15_3
              try clear hcz18_0
              try clear hcz18_1
              try clear hcz18_2
              try clear hcz18_3
              try clear hcz21_0
              try clear hcz21_1
              try clear hcz21_2
              try clear hcz21_3
              try clear hcz24_0
              try clear hcz24_1
              try clear hcz24_2
              try clear hcz24_3
              try clear hfz13_0
              try clear hfz13_1
              try clear hfz13_2
              try clear hfz13_3
              try clear hfz15_0
              try clear hfz15_1
              try clear hfz15_2
              try clear hfz15_3
              try clear hfz18_0
              try clear hfz18_1
              try clear hfz18_2
              try clear hfz18_3
              try clear hfz21_0
              try clear hfz21_1
              try clear hfz21_2
              try clear hfz21_3
              try clear hfz24_0
              try clear hfz24_1
              try clear hfz24_2
              try clear hfz24_3
              obtain ⟨x4_1, x5_1, x6_1, rfl, rfl, HA, HK1, HO_4, BK203, HB⟩ := hrel
              cases gk with
              | zero => exact absurd HA.out (by simp [strataref12_EncodeManifest.l0])
              | succ k1 =>
                have H := HA.out
                clear HA
                simp only [strataref12_EncodeManifest.l0] at H
                by_cases c27 : x6_1 < (l0_3.length : Int)
                · rw [if_pos c27] at H
                  have c27b0 : decide (x6_1 < (l0_3.length : Int)) = true := decide_eq_true c27
                  clear c27
                  by_cases c28 : 0 ≤ x6_1
                  · rw [if_pos c28] at H
                    have c28b0 : decide (0 ≤ x6_1) = true := decide_eq_true c28
                    clear c28
                    replace H := Option.bind_eq_some_iff.mp H
                    obtain ⟨t224, A290, H⟩ := H
                    replace H : (if x4_1.length + t224.size < 140737488355328 then ((some (x4_1 ++ bytesOf t224 : List Int)).bind fun y225 => ((strataref01_Uvarint.f (IntKind.u64.wrap (((rd_T36 l0_3 x6_1).f1) - x5_1))).bind fun t228 => (if y225.length + t228.size < 140737488355328 then ((some (y225 ++ bytesOf t228 : List Int)).bind fun y229 => ((strataref01_Uvarint.f (IntKind.u64.wrap (((rd_T36 l0_3 x6_1).f2) - ((rd_T36 l0_3 x6_1).f1)))).bind fun t232 => (if y229.length + t232.size < 140737488355328 then ((some (y229 ++ bytesOf t232 : List Int)).bind fun y233 => ((strataref01_Uvarint.f (IntKind.u64.wrap ((rd_T36 l0_3 x6_1).f3))).bind fun t236 => (if y233.length + t236.size < 140737488355328 then ((some (y233 ++ bytesOf t236 : List Int)).bind fun y237 => ((strataref01_Uvarint.f (IntKind.u64.wrap ((rd_T36 l0_3 x6_1).f4))).bind fun t240 => (if y237.length + t240.size < 140737488355328 then ((some (y237 ++ bytesOf t240 : List Int)).bind fun y241 => ((strataref01_Uvarint.f (IntKind.u64.wrap ((rd_T36 l0_3 x6_1).f5))).bind fun t244 => (if y241.length + t244.size < 140737488355328 then ((some (y241 ++ bytesOf t244 : List Int)).bind fun y245 => ((strataref01_Fixed32.f ((rd_T36 l0_3 x6_1).f6)).bind fun t248 => (if y245.length + t248.size < 140737488355328 then ((some (y245 ++ bytesOf t248 : List Int)).bind fun y249 => ((strataref01_Fixed32.f ((rd_T36 l0_3 x6_1).f7)).bind fun t252 => (if y249.length + t252.size < 140737488355328 then (strataref12_EncodeManifest.l0 k1 (y249 ++ bytesOf t252) ((rd_T36 l0_3 x6_1).f2) (wrap64 (x6_1 + 1)) a0_0 a0_1 a0_2 l0_3) else (none)))) else (none)))) else (none)))) else (none)))) else (none)))) else (none)))) else (none)))) else (none)) = some (r1, r2) := H
                    have A29 := Aside0.mk A290
                    clear A290
                    by_cases c30 : x4_1.length + t224.size < 140737488355328
                    · rw [if_pos c30] at H
                      have LMc30 := Aside0.mk c30
                      clear c30
                      obtain ⟨y225, hy225⟩ : ∃ y_ : List Int, y_ = (x4_1 ++ bytesOf t224) := ⟨_, rfl⟩
                      replace H : ((strataref01_Uvarint.f (IntKind.u64.wrap (((rd_T36 l0_3 x6_1).f1) - x5_1))).bind fun t228 => (if y225.length + t228.size < 140737488355328 then ((some (y225 ++ bytesOf t228 : List Int)).bind fun y229 => ((strataref01_Uvarint.f (IntKind.u64.wrap (((rd_T36 l0_3 x6_1).f2) - ((rd_T36 l0_3 x6_1).f1)))).bind fun t232 => (if y229.length + t232.size < 140737488355328 then ((some (y229 ++ bytesOf t232 : List Int)).bind fun y233 => ((strataref01_Uvarint.f (IntKind.u64.wrap ((rd_T36 l0_3 x6_1).f3))).bind fun t236 => (if y233.length + t236.size < 140737488355328 then ((some (y233 ++ bytesOf t236 : List Int)).bind fun y237 => ((strataref01_Uvarint.f (IntKind.u64.wrap ((rd_T36 l0_3 x6_1).f4))).bind fun t240 => (if y237.length + t240.size < 140737488355328 then ((some (y237 ++ bytesOf t240 : List Int)).bind fun y241 => ((strataref01_Uvarint.f (IntKind.u64.wrap ((rd_T36 l0_3 x6_1).f5))).bind fun t244 => (if y241.length + t244.size < 140737488355328 then ((some (y241 ++ bytesOf t244 : List Int)).bind fun y245 => ((strataref01_Fixed32.f ((rd_T36 l0_3 x6_1).f6)).bind fun t248 => (if y245.length + t248.size < 140737488355328 then ((some (y245 ++ bytesOf t248 : List Int)).bind fun y249 => ((strataref01_Fixed32.f ((rd_T36 l0_3 x6_1).f7)).bind fun t252 => (if y249.length + t252.size < 140737488355328 then (strataref12_EncodeManifest.l0 k1 (y249 ++ bytesOf t252) ((rd_T36 l0_3 x6_1).f2) (wrap64 (x6_1 + 1)) a0_0 a0_1 a0_2 l0_3) else (none)))) else (none)))) else (none)))) else (none)))) else (none)))) else (none)))) else (none))) = some (r1, r2) := by first | (rw [hy225]; with_reducible exact H) | (have H2_ := (Option.bind_some _ _).symm.trans H; rw [hy225]; with_reducible exact H2_) | (have H2_ := (Option.bind_some _ _).symm.trans H; with_reducible exact H2_) | with_reducible exact H | (rw [hy225]; exact H) | exact H
                      have Ny225 := Aside0.mk hy225
                      clear hy225
                      replace H := Option.bind_eq_some_iff.mp H
                      obtain ⟨t228, A310, H⟩ := H
                      replace H : (if y225.length + t228.size < 140737488355328 then ((some (y225 ++ bytesOf t228 : List Int)).bind fun y229 => ((strataref01_Uvarint.f (IntKind.u64.wrap (((rd_T36 l0_3 x6_1).f2) - ((rd_T36 l0_3 x6_1).f1)))).bind fun t232 => (if y229.length + t232.size < 140737488355328 then ((some (y229 ++ bytesOf t232 : List Int)).bind fun y233 => ((strataref01_Uvarint.f (IntKind.u64.wrap ((rd_T36 l0_3 x6_1).f3))).bind fun t236 => (if y233.length + t236.size < 140737488355328 then ((some (y233 ++ bytesOf t236 : List Int)).bind fun y237 => ((strataref01_Uvarint.f (IntKind.u64.wrap ((rd_T36 l0_3 x6_1).f4))).bind fun t240 => (if y237.length + t240.size < 140737488355328 then ((some (y237 ++ bytesOf t240 : List Int)).bind fun y241 => ((strataref01_Uvarint.f (IntKind.u64.wrap ((rd_T36 l0_3 x6_1).f5))).bind fun t244 => (if y241.length + t244.size < 140737488355328 then ((some (y241 ++ bytesOf t244 : List Int)).bind fun y245 => ((strataref01_Fixed32.f ((rd_T36 l0_3 x6_1).f6)).bind fun t248 => (if y245.length + t248.size < 140737488355328 then ((some (y245 ++ bytesOf t248 : List Int)).bind fun y249 => ((strataref01_Fixed32.f ((rd_T36 l0_3 x6_1).f7)).bind fun t252 => (if y249.length + t252.size < 140737488355328 then (strataref12_EncodeManifest.l0 k1 (y249 ++ bytesOf t252) ((rd_T36 l0_3 x6_1).f2) (wrap64 (x6_1 + 1)) a0_0 a0_1 a0_2 l0_3) else (none)))) else (none)))) else (none)))) else (none)))) else (none)))) else (none)))) else (none)) = some (r1, r2) := H
                      have A31 := Aside0.mk A310
                      clear A310
                      by_cases c32 : y225.length + t228.size < 140737488355328
                      · rw [if_pos c32] at H
                        have LMc32 := Aside0.mk c32
                        clear c32
                        obtain ⟨y229, hy229⟩ : ∃ y_ : List Int, y_ = (y225 ++ bytesOf t228) := ⟨_, rfl⟩
                        replace H : ((strataref01_Uvarint.f (IntKind.u64.wrap (((rd_T36 l0_3 x6_1).f2) - ((rd_T36 l0_3 x6_1).f1)))).bind fun t232 => (if y229.length + t232.size < 140737488355328 then ((some (y229 ++ bytesOf t232 : List Int)).bind fun y233 => ((strataref01_Uvarint.f (IntKind.u64.wrap ((rd_T36 l0_3 x6_1).f3))).bind fun t236 => (if y233.length + t236.size < 140737488355328 then ((some (y233 ++ bytesOf t236 : List Int)).bind fun y237 => ((strataref01_Uvarint.f (IntKind.u64.wrap ((rd_T36 l0_3 x6_1).f4))).bind fun t240 => (if y237.length + t240.size < 140737488355328 then ((some (y237 ++ bytesOf t240 : List Int)).bind fun y241 => ((strataref01_Uvarint.f (IntKind.u64.wrap ((rd_T36 l0_3 x6_1).f5))).bind fun t244 => (if y241.length + t244.size < 140737488355328 then ((some (y241 ++ bytesOf t244 : List Int)).bind fun y245 => ((strataref01_Fixed32.f ((rd_T36 l0_3 x6_1).f6)).bind fun t248 => (if y245.length + t248.size < 140737488355328 then ((some (y245 ++ bytesOf t248 : List Int)).bind fun y249 => ((strataref01_Fixed32.f ((rd_T36 l0_3 x6_1).f7)).bind fun t252 => (if y249.length + t252.size < 140737488355328 then (strataref12_EncodeManifest.l0 k1 (y249 ++ bytesOf t252) ((rd_T36 l0_3 x6_1).f2) (wrap64 (x6_1 + 1)) a0_0 a0_1 a0_2 l0_3) else (none)))) else (none)))) else (none)))) else (none)))) else (none)))) else (none))) = some (r1, r2) := by first | (rw [hy229]; with_reducible exact H) | (have H2_ := (Option.bind_some _ _).symm.trans H; rw [hy229]; with_reducible exact H2_) | (have H2_ := (Option.bind_some _ _).symm.trans H; with_reducible exact H2_) | with_reducible exact H | (rw [hy229]; exact H) | exact H
                        have Ny229 := Aside0.mk hy229
                        clear hy229
                        replace H := Option.bind_eq_some_iff.mp H
                        obtain ⟨t232, A330, H⟩ := H
                        replace H : (if y229.length + t232.size < 140737488355328 then ((some (y229 ++ bytesOf t232 : List Int)).bind fun y233 => ((strataref01_Uvarint.f (IntKind.u64.wrap ((rd_T36 l0_3 x6_1).f3))).bind fun t236 => (if y233.length + t236.size < 140737488355328 then ((some (y233 ++ bytesOf t236 : List Int)).bind fun y237 => ((strataref01_Uvarint.f (IntKind.u64.wrap ((rd_T36 l0_3 x6_1).f4))).bind fun t240 => (if y237.length + t240.size < 140737488355328 then ((some (y237 ++ bytesOf t240 : List Int)).bind fun y241 => ((strataref01_Uvarint.f (IntKind.u64.wrap ((rd_T36 l0_3 x6_1).f5))).bind fun t244 => (if y241.length + t244.size < 140737488355328 then ((some (y241 ++ bytesOf t244 : List Int)).bind fun y245 => ((strataref01_Fixed32.f ((rd_T36 l0_3 x6_1).f6)).bind fun t248 => (if y245.length + t248.size < 140737488355328 then ((some (y245 ++ bytesOf t248 : List Int)).bind fun y249 => ((strataref01_Fixed32.f ((rd_T36 l0_3 x6_1).f7)).bind fun t252 => (if y249.length + t252.size < 140737488355328 then (strataref12_EncodeManifest.l0 k1 (y249 ++ bytesOf t252) ((rd_T36 l0_3 x6_1).f2) (wrap64 (x6_1 + 1)) a0_0 a0_1 a0_2 l0_3) else (none)))) else (none)))) else (none)))) else (none)))) else (none)))) else (none)) = some (r1, r2) := H
                        have A33 := Aside0.mk A330
                        clear A330
                        by_cases c34 : y229.length + t232.size < 140737488355328
                        · rw [if_pos c34] at H
                          have LMc34 := Aside0.mk c34
                          clear c34
                          obtain ⟨y233, hy233⟩ : ∃ y_ : List Int, y_ = (y229 ++ bytesOf t232) := ⟨_, rfl⟩
                          replace H : ((strataref01_Uvarint.f (IntKind.u64.wrap ((rd_T36 l0_3 x6_1).f3))).bind fun t236 => (if y233.length + t236.size < 140737488355328 then ((some (y233 ++ bytesOf t236 : List Int)).bind fun y237 => ((strataref01_Uvarint.f (IntKind.u64.wrap ((rd_T36 l0_3 x6_1).f4))).bind fun t240 => (if y237.length + t240.size < 140737488355328 then ((some (y237 ++ bytesOf t240 : List Int)).bind fun y241 => ((strataref01_Uvarint.f (IntKind.u64.wrap ((rd_T36 l0_3 x6_1).f5))).bind fun t244 => (if y241.length + t244.size < 140737488355328 then ((some (y241 ++ bytesOf t244 : List Int)).bind fun y245 => ((strataref01_Fixed32.f ((rd_T36 l0_3 x6_1).f6)).bind fun t248 => (if y245.length + t248.size < 140737488355328 then ((some (y245 ++ bytesOf t248 : List Int)).bind fun y249 => ((strataref01_Fixed32.f ((rd_T36 l0_3 x6_1).f7)).bind fun t252 => (if y249.length + t252.size < 140737488355328 then (strataref12_EncodeManifest.l0 k1 (y249 ++ bytesOf t252) ((rd_T36 l0_3 x6_1).f2) (wrap64 (x6_1 + 1)) a0_0 a0_1 a0_2 l0_3) else (none)))) else (none)))) else (none)))) else (none)))) else (none))) = some (r1, r2) := by first | (rw [hy233]; with_reducible exact H) | (have H2_ := (Option.bind_some _ _).symm.trans H; rw [hy233]; with_reducible exact H2_) | (have H2_ := (Option.bind_some _ _).symm.trans H; with_reducible exact H2_) | with_reducible exact H | (rw [hy233]; exact H) | exact H
                          have Ny233 := Aside0.mk hy233
                          clear hy233
                          replace H := Option.bind_eq_some_iff.mp H
                          obtain ⟨t236, A350, H⟩ := H
                          replace H : (if y233.length + t236.size < 140737488355328 then ((some (y233 ++ bytesOf t236 : List Int)).bind fun y237 => ((strataref01_Uvarint.f (IntKind.u64.wrap ((rd_T36 l0_3 x6_1).f4))).bind fun t240 => (if y237.length + t240.size < 140737488355328 then ((some (y237 ++ bytesOf t240 : List Int)).bind fun y241 => ((strataref01_Uvarint.f (IntKind.u64.wrap ((rd_T36 l0_3 x6_1).f5))).bind fun t244 => (if y241.length + t244.size < 140737488355328 then ((some (y241 ++ bytesOf t244 : List Int)).bind fun y245 => ((strataref01_Fixed32.f ((rd_T36 l0_3 x6_1).f6)).bind fun t248 => (if y245.length + t248.size < 140737488355328 then ((some (y245 ++ bytesOf t248 : List Int)).bind fun y249 => ((strataref01_Fixed32.f ((rd_T36 l0_3 x6_1).f7)).bind fun t252 => (if y249.length + t252.size < 140737488355328 then (strataref12_EncodeManifest.l0 k1 (y249 ++ bytesOf t252) ((rd_T36 l0_3 x6_1).f2) (wrap64 (x6_1 + 1)) a0_0 a0_1 a0_2 l0_3) else (none)))) else (none)))) else (none)))) else (none)))) else (none)) = some (r1, r2) := H
                          have A35 := Aside0.mk A350
                          clear A350
                          by_cases c36 : y233.length + t236.size < 140737488355328
                          · rw [if_pos c36] at H
                            have LMc36 := Aside0.mk c36
                            clear c36
                            obtain ⟨y237, hy237⟩ : ∃ y_ : List Int, y_ = (y233 ++ bytesOf t236) := ⟨_, rfl⟩
                            replace H : ((strataref01_Uvarint.f (IntKind.u64.wrap ((rd_T36 l0_3 x6_1).f4))).bind fun t240 => (if y237.length + t240.size < 140737488355328 then ((some (y237 ++ bytesOf t240 : List Int)).bind fun y241 => ((strataref01_Uvarint.f (IntKind.u64.wrap ((rd_T36 l0_3 x6_1).f5))).bind fun t244 => (if y241.length + t244.size < 140737488355328 then ((some (y241 ++ bytesOf t244 : List Int)).bind fun y245 => ((strataref01_Fixed32.f ((rd_T36 l0_3 x6_1).f6)).bind fun t248 => (if y245.length + t248.size < 140737488355328 then ((some (y245 ++ bytesOf t248 : List Int)).bind fun y249 => ((strataref01_Fixed32.f ((rd_T36 l0_3 x6_1).f7)).bind fun t252 => (if y249.length + t252.size < 140737488355328 then (strataref12_EncodeManifest.l0 k1 (y249 ++ bytesOf t252) ((rd_T36 l0_3 x6_1).f2) (wrap64 (x6_1 + 1)) a0_0 a0_1 a0_2 l0_3) else (none)))) else (none)))) else (none)))) else (none))) = some (r1, r2) := by first | (rw [hy237]; with_reducible exact H) | (have H2_ := (Option.bind_some _ _).symm.trans H; rw [hy237]; with_reducible exact H2_) | (have H2_ := (Option.bind_some _ _).symm.trans H; with_reducible exact H2_) | with_reducible exact H | (rw [hy237]; exact H) | exact H
                            have Ny237 := Aside0.mk hy237
                            clear hy237
                            replace H := Option.bind_eq_some_iff.mp H
                            obtain ⟨t240, A370, H⟩ := H
                            replace H : (if y237.length + t240.size < 140737488355328 then ((some (y237 ++ bytesOf t240 : List Int)).bind fun y241 => ((strataref01_Uvarint.f (IntKind.u64.wrap ((rd_T36 l0_3 x6_1).f5))).bind fun t244 => (if y241.length + t244.size < 140737488355328 then ((some (y241 ++ bytesOf t244 : List Int)).bind fun y245 => ((strataref01_Fixed32.f ((rd_T36 l0_3 x6_1).f6)).bind fun t248 => (if y245.length + t248.size < 140737488355328 then ((some (y245 ++ bytesOf t248 : List Int)).bind fun y249 => ((strataref01_Fixed32.f ((rd_T36 l0_3 x6_1).f7)).bind fun t252 => (if y249.length + t252.size < 140737488355328 then (strataref12_EncodeManifest.l0 k1 (y249 ++ bytesOf t252) ((rd_T36 l0_3 x6_1).f2) (wrap64 (x6_1 + 1)) a0_0 a0_1 a0_2 l0_3) else (none)))) else (none)))) else (none)))) else (none)) = some (r1, r2) := H
                            have A37 := Aside0.mk A370
                            clear A370
                            by_cases c38 : y237.length + t240.size < 140737488355328
                            · rw [if_pos c38] at H
                              have LMc38 := Aside0.mk c38
                              clear c38
                              obtain ⟨y241, hy241⟩ : ∃ y_ : List Int, y_ = (y237 ++ bytesOf t240) := ⟨_, rfl⟩
                              replace H : ((strataref01_Uvarint.f (IntKind.u64.wrap ((rd_T36 l0_3 x6_1).f5))).bind fun t244 => (if y241.length + t244.size < 140737488355328 then ((some (y241 ++ bytesOf t244 : List Int)).bind fun y245 => ((strataref01_Fixed32.f ((rd_T36 l0_3 x6_1).f6)).bind fun t248 => (if y245.length + t248.size < 140737488355328 then ((some (y245 ++ bytesOf t248 : List Int)).bind fun y249 => ((strataref01_Fixed32.f ((rd_T36 l0_3 x6_1).f7)).bind fun t252 => (if y249.length + t252.size < 140737488355328 then (strataref12_EncodeManifest.l0 k1 (y249 ++ bytesOf t252) ((rd_T36 l0_3 x6_1).f2) (wrap64 (x6_1 + 1)) a0_0 a0_1 a0_2 l0_3) else (none)))) else (none)))) else (none))) = some (r1, r2) := by first | (rw [hy241]; with_reducible exact H) | (have H2_ := (Option.bind_some _ _).symm.trans H; rw [hy241]; with_reducible exact H2_) | (have H2_ := (Option.bind_some _ _).symm.trans H; with_reducible exact H2_) | with_reducible exact H | (rw [hy241]; exact H) | exact H
                              have Ny241 := Aside0.mk hy241
                              clear hy241
                              replace H := Option.bind_eq_some_iff.mp H
                              obtain ⟨t244, A390, H⟩ := H
                              replace H : (if y241.length + t244.size < 140737488355328 then ((some (y241 ++ bytesOf t244 : List Int)).bind fun y245 => ((strataref01_Fixed32.f ((rd_T36 l0_3 x6_1).f6)).bind fun t248 => (if y245.length + t248.size < 140737488355328 then ((some (y245 ++ bytesOf t248 : List Int)).bind fun y249 => ((strataref01_Fixed32.f ((rd_T36 l0_3 x6_1).f7)).bind fun t252 => (if y249.length + t252.size < 140737488355328 then (strataref12_EncodeManifest.l0 k1 (y249 ++ bytesOf t252) ((rd_T36 l0_3 x6_1).f2) (wrap64 (x6_1 + 1)) a0_0 a0_1 a0_2 l0_3) else (none)))) else (none)))) else (none)) = some (r1, r2) := H
                              have A39 := Aside0.mk A390
                              clear A390
                              by_cases c40 : y241.length + t244.size < 140737488355328
                              · rw [if_pos c40] at H
                                have LMc40 := Aside0.mk c40
                                clear c40
                                obtain ⟨y245, hy245⟩ : ∃ y_ : List Int, y_ = (y241 ++ bytesOf t244) := ⟨_, rfl⟩
                                replace H : ((strataref01_Fixed32.f ((rd_T36 l0_3 x6_1).f6)).bind fun t248 => (if y245.length + t248.size < 140737488355328 then ((some (y245 ++ bytesOf t248 : List Int)).bind fun y249 => ((strataref01_Fixed32.f ((rd_T36 l0_3 x6_1).f7)).bind fun t252 => (if y249.length + t252.size < 140737488355328 then (strataref12_EncodeManifest.l0 k1 (y249 ++ bytesOf t252) ((rd_T36 l0_3 x6_1).f2) (wrap64 (x6_1 + 1)) a0_0 a0_1 a0_2 l0_3) else (none)))) else (none))) = some (r1, r2) := by first | (rw [hy245]; with_reducible exact H) | (have H2_ := (Option.bind_some _ _).symm.trans H; rw [hy245]; with_reducible exact H2_) | (have H2_ := (Option.bind_some _ _).symm.trans H; with_reducible exact H2_) | with_reducible exact H | (rw [hy245]; exact H) | exact H
                                have Ny245 := Aside0.mk hy245
                                clear hy245
                                replace H := Option.bind_eq_some_iff.mp H
                                obtain ⟨t248, A410, H⟩ := H
                                replace H : (if y245.length + t248.size < 140737488355328 then ((some (y245 ++ bytesOf t248 : List Int)).bind fun y249 => ((strataref01_Fixed32.f ((rd_T36 l0_3 x6_1).f7)).bind fun t252 => (if y249.length + t252.size < 140737488355328 then (strataref12_EncodeManifest.l0 k1 (y249 ++ bytesOf t252) ((rd_T36 l0_3 x6_1).f2) (wrap64 (x6_1 + 1)) a0_0 a0_1 a0_2 l0_3) else (none)))) else (none)) = some (r1, r2) := H
                                have A41 := Aside0.mk A410
                                clear A410
                                by_cases c42 : y245.length + t248.size < 140737488355328
                                · rw [if_pos c42] at H
                                  have LMc42 := Aside0.mk c42
                                  clear c42
                                  obtain ⟨y249, hy249⟩ : ∃ y_ : List Int, y_ = (y245 ++ bytesOf t248) := ⟨_, rfl⟩
                                  replace H : ((strataref01_Fixed32.f ((rd_T36 l0_3 x6_1).f7)).bind fun t252 => (if y249.length + t252.size < 140737488355328 then (strataref12_EncodeManifest.l0 k1 (y249 ++ bytesOf t252) ((rd_T36 l0_3 x6_1).f2) (wrap64 (x6_1 + 1)) a0_0 a0_1 a0_2 l0_3) else (none))) = some (r1, r2) := by first | (rw [hy249]; with_reducible exact H) | (have H2_ := (Option.bind_some _ _).symm.trans H; rw [hy249]; with_reducible exact H2_) | (have H2_ := (Option.bind_some _ _).symm.trans H; with_reducible exact H2_) | with_reducible exact H | (rw [hy249]; exact H) | exact H
                                  have Ny249 := Aside0.mk hy249
                                  clear hy249
                                  replace H := Option.bind_eq_some_iff.mp H
                                  obtain ⟨t252, A430, H⟩ := H
                                  replace H : (if y249.length + t252.size < 140737488355328 then (strataref12_EncodeManifest.l0 k1 (y249 ++ bytesOf t252) ((rd_T36 l0_3 x6_1).f2) (wrap64 (x6_1 + 1)) a0_0 a0_1 a0_2 l0_3) else (none)) = some (r1, r2) := H
                                  have A43 := Aside0.mk A430
                                  clear A430
                                  by_cases c44 : y249.length + t252.size < 140737488355328
                                  · rw [if_pos c44] at H
                                    have LMc44 := Aside0.mk c44
                                    clear c44
                                    obtain ⟨y253, hy253⟩ : ∃ y_ : List Int, y_ = (y249 ++ bytesOf t252) := ⟨_, rfl⟩
                                    replace H : (strataref12_EncodeManifest.l0 k1 y253 ((rd_T36 l0_3 x6_1).f2) (wrap64 (x6_1 + 1)) a0_0 a0_1 a0_2 l0_3) = some (r1, r2) := by first | (rw [hy253]; with_reducible exact H) | (have H2_ := (Option.bind_some _ _).symm.trans H; rw [hy253]; with_reducible exact H2_) | (have H2_ := (Option.bind_some _ _).symm.trans H; with_reducible exact H2_) | with_reducible exact H | (rw [hy253]; exact H) | exact H
                                    have Ny253 := Aside0.mk hy253
                                    clear hy253
                                    have H' := Aside0.mk H
                                    clear H
                                    have hcz45_0 : wr.cell? ⟨gb203, 0, none⟩ = some (.int .i64 a0_0) := (blk_cell BK203.out 0).trans rfl
                                    have hcz45_1 : wr.cell? ⟨gb203, 1, none⟩ = some (.int .i64 a0_1) := (blk_cell BK203.out 1).trans rfl
                                    have hcz45_2 : wr.cell? ⟨gb203, 2, none⟩ = some (.int .u64 a0_2) := (blk_cell BK203.out 2).trans rfl
                                    have hcz45_3 : wr.cell? ⟨gb203, 3, none⟩ = some (.slice A0_3 l0_3.length c0_3) := (blk_cell BK203.out 3).trans rfl
                                    have hfz45_0 := blk_frozen BK203.out 0
                                    have hfz45_1 := blk_frozen BK203.out 1
                                    have hfz45_2 := blk_frozen BK203.out 2
                                    have hfz45_3 := blk_frozen BK203.out 3
                                    have p222 : 0 ≤ (x6_1 : Int) := of_decide_eq_true (by first | (with_reducible assumption) | assumption)
                                    have q222 : x6_1 < (l0_3.length : Int) := of_decide_eq_true (by first | (with_reducible assumption) | assumption)
                                    obtain ⟨ad222, e222, hx222_0, hx222_1, hx222_2, hx222_3, hx222_4, hx222_5, hx222_6, hx222_7⟩ := at_T36 HR0_3.out x6_1 p222 q222
                                    cases e222
                                    replace hx222_0 := (HB.out.cell (World.block_lt_of_cell? w _ hx222_0)).trans hx222_0
                                    replace hx222_1 := (HB.out.cell (World.block_lt_of_cell? w _ hx222_1)).trans hx222_1
                                    replace hx222_2 := (HB.out.cell (World.block_lt_of_cell? w _ hx222_2)).trans hx222_2
                                    replace hx222_3 := (HB.out.cell (World.block_lt_of_cell? w _ hx222_3)).trans hx222_3
                                    replace hx222_4 := (HB.out.cell (World.block_lt_of_cell? w _ hx222_4)).trans hx222_4
                                    replace hx222_5 := (HB.out.cell (World.block_lt_of_cell? w _ hx222_5)).trans hx222_5
                                    replace hx222_6 := (HB.out.cell (World.block_lt_of_cell? w _ hx222_6)).trans hx222_6
                                    replace hx222_7 := (HB.out.cell (World.block_lt_of_cell? w _ hx222_7)).trans hx222_7
                                    replace p222 := eq_true p222
                                    replace q222 := eq_true q222
                                    go_wp2_with (first | ((with_reducible refine gate_dst (N := 7) rfl ?_); refine box_event ?hg (N := 7) ?hd (cs := #[.int .i64 0, .int .u64 0, .int .u64 0, .int .i64 0, .int .i64 0, .int .i64 0, .int .u32 0, .int .u32 0]) (t := 36) ?hr ?_; (case hd => rfl); (case hg => rfl); (case hr => first | (go_simp; done) | (go_simp; rfl)); intro gb223 hg w46 hbox hb; have n0_ := Aside0.mk (Kd.R_below (by (with_reducible repeat (first | apply Kd.R_alloc | apply Kd.R_drewN | apply Kd.R_drew)); exact HO_4.out) hb); have n1_ := Aside0.mk (blk_below (g := gb203) (o := .cells #[.int .i64 a0_0, .int .i64 a0_1, .int .u64 a0_2, .slice (some ad222) l0_3.length c0_3] 25 (0, 0)) (by (with_reducible repeat (first | refine blk_drewN ?_ _ | refine blk_drew ?_ | refine blk_alloc ?_ _)); exact BK203.out) hb); have n2_ := Aside0.mk (below_step (by repeat (first | (with_reducible first | exact HB.out | apply below_alloc | apply pw_below_drewN | apply below_drew1 | refine below_set ?_ GE203.out) | exact HB.out)) hb); have n3_ := Aside0.mk (hbox); have n4_ := Aside0.mk ((by rw [hg]; exact (below_size (by repeat (first | (with_reducible first | exact HB.out | apply below_alloc | apply pw_below_drewN | apply below_drew1 | refine below_set ?_ GE203.out) | exact HB.out))) : w.heap.size ≤ gb223)); have n5_ := Aside0.mk ((by rw [hg]; exact (below_size (by repeat (first | (with_reducible first | exact HB.out | apply below_alloc | apply pw_below_drewN | apply below_drew1 | refine below_set ?_ GE203.out) | exact HB.out))) : w.heap.size ≤ gb223)); have n6_ := Aside0.mk ((by rw [hg]; exact Nat.ne_of_lt (blk_lt (g := gb203) (o := .cells #[.int .i64 a0_0, .int .i64 a0_1, .int .u64 a0_2, .slice (some ad222) l0_3.length c0_3] 25 (0, 0)) (by (with_reducible repeat (first | refine blk_drewN ?_ _ | refine blk_drew ?_ | refine blk_alloc ?_ _)); exact BK203.out)) : gb203 ≠ gb223)); have n7_ := Aside0.mk ((by rw [hg]; exact Nat.ne_of_gt (blk_lt (g := gb203) (o := .cells #[.int .i64 a0_0, .int .i64 a0_1, .int .u64 a0_2, .slice (some ad222) l0_3.length c0_3] 25 (0, 0)) (by (with_reducible repeat (first | refine blk_drewN ?_ _ | refine blk_drew ?_ | refine blk_alloc ?_ _)); exact BK203.out)) : gb223 ≠ gb203)); clear HO_4; clear BK203; clear HB; have HO_4 := n0_; have BK203 := n1_; have HB := n2_; have BK223 := n3_; have GW223 := n4_; have GE223 := n5_; have NB203_223 := n6_; have NB223_203 := n7_; clear n0_ n1_ n2_ n3_ n4_ n5_ n6_ n7_; clear hb hbox hg; have hnb47 := NB223_203.out; have hnc47 := NB203_223.out; have hcz48_0 : w46.cell? ⟨gb223, 0, none⟩ = some (.int .i64 0) := (blk_cell BK223.out 0).trans rfl; have hcz48_1 : w46.cell? ⟨gb223, 1, none⟩ = some (.int .u64 0) := (blk_cell BK223.out 1).trans rfl; have hcz48_2 : w46.cell? ⟨gb223, 2, none⟩ = some (.int .u64 0) := (blk_cell BK223.out 2).trans rfl; have hcz48_3 : w46.cell? ⟨gb223, 3, none⟩ = some (.int .i64 0) := (blk_cell BK223.out 3).trans rfl; have hcz48_4 : w46.cell? ⟨gb223, 4, none⟩ = some (.int .i64 0) := (blk_cell BK223.out 4).trans rfl; have hcz48_5 : w46.cell? ⟨gb223, 5, none⟩ = some (.int .i64 0) := (blk_cell BK223.out 5).trans rfl; have hcz48_6 : w46.cell? ⟨gb223, 6, none⟩ = some (.int .u32 0) := (blk_cell BK223.out 6).trans rfl; have hcz48_7 : w46.cell? ⟨gb223, 7, none⟩ = some (.int .u32 0) := (blk_cell BK223.out 7).trans rfl; have hfz48_0 := blk_frozen BK223.out 0; have hfz48_1 := blk_frozen BK223.out 1; have hfz48_2 := blk_frozen BK223.out 2; have hfz48_3 := blk_frozen BK223.out 3; have hfz48_4 := blk_frozen BK223.out 4; have hfz48_5 := blk_frozen BK223.out 5; have hfz48_6 := blk_frozen BK223.out 6; have hfz48_7 := blk_frozen BK223.out 7) | ((with_reducible refine gate_callee (f := 35) rfl ?_); refine goesL_ (some 51) rfl rfl Tryd.func35 (by kernel_rfl) rfl #[.int .u64 (IntKind.u64.wrap ((rd_T36 l0_3 x6_1).f0))] rfl (by (try simp only [List.map_toArray, List.map_cons, List.map_nil]); first | done | rfl | (simp only [List.length_drop, List.length_take]; rfl)) ?_; (with_reducible refine (strataref01_Uvarint.calls (IntKind.u64.wrap ((rd_T36 l0_3 x6_1).f0)) t224 _ A29.out).mono ?_); rintro e w49 ⟨rfl, hb⟩; refine ⟨_, rfl, ?_⟩; have n0_ := Aside0.mk (Kd.R_below (by (with_reducible repeat (first | apply Kd.R_alloc | apply Kd.R_drewN | apply Kd.R_drew)); exact (Kd.R_mono (Kd.R_far (p := ⟨gb223, 7, none⟩) (Kd.R_far (p := ⟨gb223, 6, none⟩) (Kd.R_far (p := ⟨gb223, 5, none⟩) (Kd.R_far (p := ⟨gb223, 4, none⟩) (Kd.R_far (p := ⟨gb223, 3, none⟩) (Kd.R_far (p := ⟨gb223, 2, none⟩) (Kd.R_far (p := ⟨gb223, 1, none⟩) (Kd.R_far (p := ⟨gb223, 0, none⟩) (Kd.R_types HO_4.out BK223.out (by decide)) (fun _ hk => hk.2) (.int .i64 ((rd_T36 l0_3 x6_1).f0))) (fun _ hk => hk.2) (.int .u64 ((rd_T36 l0_3 x6_1).f1))) (fun _ hk => hk.2) (.int .u64 ((rd_T36 l0_3 x6_1).f2))) (fun _ hk => hk.2) (.int .i64 ((rd_T36 l0_3 x6_1).f3))) (fun _ hk => hk.2) (.int .i64 ((rd_T36 l0_3 x6_1).f4))) (fun _ hk => hk.2) (.int .i64 ((rd_T36 l0_3 x6_1).f5))) (fun _ hk => hk.2) (.int .u32 ((rd_T36 l0_3 x6_1).f6))) (fun _ hk => hk.2) (.int .u32 ((rd_T36 l0_3 x6_1).f7))) (fun _ h_ => h_.1))) hb); have n1_ := Aside0.mk (blk_below (g := gb203) (o := .cells #[.int .i64 a0_0, .int .i64 a0_1, .int .u64 a0_2, .slice (some ad222) l0_3.length c0_3] 25 (0, 0)) (by (with_reducible repeat (first | refine blk_drewN ?_ _ | refine blk_drew ?_ | refine blk_alloc ?_ _)); refine blk_far ?_ NB203_223.out _; (with_reducible repeat (first | refine blk_drewN ?_ _ | refine blk_drew ?_ | refine blk_alloc ?_ _)); refine blk_far ?_ NB203_223.out _; (with_reducible repeat (first | refine blk_drewN ?_ _ | refine blk_drew ?_ | refine blk_alloc ?_ _)); refine blk_far ?_ NB203_223.out _; (with_reducible repeat (first | refine blk_drewN ?_ _ | refine blk_drew ?_ | refine blk_alloc ?_ _)); refine blk_far ?_ NB203_223.out _; (with_reducible repeat (first | refine blk_drewN ?_ _ | refine blk_drew ?_ | refine blk_alloc ?_ _)); refine blk_far ?_ NB203_223.out _; (with_reducible repeat (first | refine blk_drewN ?_ _ | refine blk_drew ?_ | refine blk_alloc ?_ _)); refine blk_far ?_ NB203_223.out _; (with_reducible repeat (first | refine blk_drewN ?_ _ | refine blk_drew ?_ | refine blk_alloc ?_ _)); refine blk_far ?_ NB203_223.out _; (with_reducible repeat (first | refine blk_drewN ?_ _ | refine blk_drew ?_ | refine blk_alloc ?_ _)); refine blk_far ?_ NB203_223.out _; (with_reducible repeat (first | refine blk_drewN ?_ _ | refine blk_drew ?_ | refine blk_alloc ?_ _)); exact BK203.out) hb); have n2_ := Aside0.mk (blk_below (g := gb223) (o := .cells #[.int .i64 ((rd_T36 l0_3 x6_1).f0), .int .u64 ((rd_T36 l0_3 x6_1).f1), .int .u64 ((rd_T36 l0_3 x6_1).f2), .int .i64 ((rd_T36 l0_3 x6_1).f3), .int .i64 ((rd_T36 l0_3 x6_1).f4), .int .i64 ((rd_T36 l0_3 x6_1).f5), .int .u32 ((rd_T36 l0_3 x6_1).f6), .int .u32 ((rd_T36 l0_3 x6_1).f7)] 36 (0, 0)) (by (with_reducible repeat (first | refine blk_drewN ?_ _ | refine blk_drew ?_ | refine blk_alloc ?_ _)); refine blk_put (cs := #[.int .i64 ((rd_T36 l0_3 x6_1).f0), .int .u64 ((rd_T36 l0_3 x6_1).f1), .int .u64 ((rd_T36 l0_3 x6_1).f2), .int .i64 ((rd_T36 l0_3 x6_1).f3), .int .i64 ((rd_T36 l0_3 x6_1).f4), .int .i64 ((rd_T36 l0_3 x6_1).f5), .int .u32 ((rd_T36 l0_3 x6_1).f6), .int .u32 0]) ?_ 7 _ rfl; (with_reducible repeat (first | refine blk_drewN ?_ _ | refine blk_drew ?_ | refine blk_alloc ?_ _)); refine blk_put (cs := #[.int .i64 ((rd_T36 l0_3 x6_1).f0), .int .u64 ((rd_T36 l0_3 x6_1).f1), .int .u64 ((rd_T36 l0_3 x6_1).f2), .int .i64 ((rd_T36 l0_3 x6_1).f3), .int .i64 ((rd_T36 l0_3 x6_1).f4), .int .i64 ((rd_T36 l0_3 x6_1).f5), .int .u32 0, .int .u32 0]) ?_ 6 _ rfl; (with_reducible repeat (first | refine blk_drewN ?_ _ | refine blk_drew ?_ | refine blk_alloc ?_ _)); refine blk_put (cs := #[.int .i64 ((rd_T36 l0_3 x6_1).f0), .int .u64 ((rd_T36 l0_3 x6_1).f1), .int .u64 ((rd_T36 l0_3 x6_1).f2), .int .i64 ((rd_T36 l0_3 x6_1).f3), .int .i64 ((rd_T36 l0_3 x6_1).f4), .int .i64 0, .int .u32 0, .int .u32 0]) ?_ 5 _ rfl; (with_reducible repeat (first | refine blk_drewN ?_ _ | refine blk_drew ?_ | refine blk_alloc ?_ _)); refine blk_put (cs := #[.int .i64 ((rd_T36 l0_3 x6_1).f0), .int .u64 ((rd_T36 l0_3 x6_1).f1), .int .u64 ((rd_T36 l0_3 x6_1).f2), .int .i64 ((rd_T36 l0_3 x6_1).f3), .int .i64 0, .int .i64 0, .int .u32 0, .int .u32 0]) ?_ 4 _ rfl; (with_reducible repeat (first | refine blk_drewN ?_ _ | refine blk_drew ?_ | refine blk_alloc ?_ _)); refine blk_put (cs := #[.int .i64 ((rd_T36 l0_3 x6_1).f0), .int .u64 ((rd_T36 l0_3 x6_1).f1), .int .u64 ((rd_T36 l0_3 x6_1).f2), .int .i64 0, .int .i64 0, .int .i64 0, .int .u32 0, .int .u32 0]) ?_ 3 _ rfl; (with_reducible repeat (first | refine blk_drewN ?_ _ | refine blk_drew ?_ | refine blk_alloc ?_ _)); refine blk_put (cs := #[.int .i64 ((rd_T36 l0_3 x6_1).f0), .int .u64 ((rd_T36 l0_3 x6_1).f1), .int .u64 0, .int .i64 0, .int .i64 0, .int .i64 0, .int .u32 0, .int .u32 0]) ?_ 2 _ rfl; (with_reducible repeat (first | refine blk_drewN ?_ _ | refine blk_drew ?_ | refine blk_alloc ?_ _)); refine blk_put (cs := #[.int .i64 ((rd_T36 l0_3 x6_1).f0), .int .u64 0, .int .u64 0, .int .i64 0, .int .i64 0, .int .i64 0, .int .u32 0, .int .u32 0]) ?_ 1 _ rfl; (with_reducible repeat (first | refine blk_drewN ?_ _ | refine blk_drew ?_ | refine blk_alloc ?_ _)); refine blk_put (cs := #[.int .i64 0, .int .u64 0, .int .u64 0, .int .i64 0, .int .i64 0, .int .i64 0, .int .u32 0, .int .u32 0]) ?_ 0 _ rfl; (with_reducible repeat (first | refine blk_drewN ?_ _ | refine blk_drew ?_ | refine blk_alloc ?_ _)); exact BK223.out) hb); have n3_ := Aside0.mk (below_step (by repeat (first | (with_reducible first | exact HB.out | apply below_alloc | apply pw_below_drewN | apply below_drew1 | refine below_set ?_ GE203.out | refine below_set ?_ GE223.out) | exact HB.out)) hb); clear HO_4; clear BK203; clear BK223; clear HB; have HO_4 := n0_; have BK203 := n1_; have BK223 := n2_; have HB := n3_; clear n0_ n1_ n2_ n3_; (try clear hb); (try clear hb2); (try clear hk); (try clear hi)) | (at_builtin; refine print_append_str (w0 := w) w.heap.size rfl (.tmp 47) _ 72 9 5 rfl Tryd.underlying72 Tryd.underlying9 info5 u4 x4_1 t224 rfl rfl ?aO ?aB ?aS ?aL ?_; (case aB => exact (by repeat (first | (with_reducible first | exact HB.out | apply below_alloc | apply pw_below_drewN | apply below_drew1 | refine below_set ?_ GE203.out | refine below_set ?_ GE223.out) | exact HB.out))); (case aO => exact (Kd.own_of_R (by (with_reducible repeat (first | apply Kd.R_alloc | apply Kd.R_drewN | apply Kd.R_drew)); exact HO_4.out))); (case aS => exact (below_size (by repeat (first | (with_reducible first | exact HB.out | apply below_alloc | apply pw_below_drewN | apply below_drew1 | refine below_set ?_ GE203.out | refine below_set ?_ GE223.out) | exact HB.out)))); (case aL => have := LMc30.out; omega); intro v226 w50 ho0 hb hg; have ho := Kd.R_of_own (enc := Value.int .u8) (h1 := fun _ => rfl) (ok := fun _ => True) ho0 (fun _ _ => trivial); clear ho0; have hat := True.intro; rw [← Ny225.out] at ho; change Kd.R (Kd.int .u8) 5 w50 w.heap.size (fun _ => True) v226 y225 at ho; have n0_ := Aside0.mk (blk_grown (g := gb203) (o := .cells #[.int .i64 a0_0, .int .i64 a0_1, .int .u64 a0_2, .slice (some ad222) l0_3.length c0_3] 25 (0, 0)) (by (with_reducible repeat (first | refine blk_drewN ?_ _ | refine blk_drew ?_ | refine blk_alloc ?_ _)); exact BK203.out) hg (Kd.R_ne HO_4.out BK203.out (by decide))); have n1_ := Aside0.mk (blk_grown (g := gb223) (o := .cells #[.int .i64 ((rd_T36 l0_3 x6_1).f0), .int .u64 ((rd_T36 l0_3 x6_1).f1), .int .u64 ((rd_T36 l0_3 x6_1).f2), .int .i64 ((rd_T36 l0_3 x6_1).f3), .int .i64 ((rd_T36 l0_3 x6_1).f4), .int .i64 ((rd_T36 l0_3 x6_1).f5), .int .u32 ((rd_T36 l0_3 x6_1).f6), .int .u32 ((rd_T36 l0_3 x6_1).f7)] 36 (0, 0)) (by (with_reducible repeat (first | refine blk_drewN ?_ _ | refine blk_drew ?_ | refine blk_alloc ?_ _)); exact BK223.out) hg (Kd.R_ne HO_4.out BK223.out (by decide))); have n2_ := Aside0.mk (hb); have n3_ := Aside0.mk (ho); clear BK203; clear BK223; clear HB; clear HO_4; have BK203 := n0_; have BK223 := n1_; have HB := n2_; have HO227 := n3_; clear n0_ n1_ n2_ n3_; clear ho hb hg hat; have hcz51_0 : w50.cell? ⟨gb223, 0, none⟩ = some (.int .i64 ((rd_T36 l0_3 x6_1).f0)) := (blk_cell BK223.out 0).trans rfl; have hcz51_1 : w50.cell? ⟨gb223, 1, none⟩ = some (.int .u64 ((rd_T36 l0_3 x6_1).f1)) := (blk_cell BK223.out 1).trans rfl; have hcz51_2 : w50.cell? ⟨gb223, 2, none⟩ = some (.int .u64 ((rd_T36 l0_3 x6_1).f2)) := (blk_cell BK223.out 2).trans rfl; have hcz51_3 : w50.cell? ⟨gb223, 3, none⟩ = some (.int .i64 ((rd_T36 l0_3 x6_1).f3)) := (blk_cell BK223.out 3).trans rfl; have hcz51_4 : w50.cell? ⟨gb223, 4, none⟩ = some (.int .i64 ((rd_T36 l0_3 x6_1).f4)) := (blk_cell BK223.out 4).trans rfl; have hcz51_5 : w50.cell? ⟨gb223, 5, none⟩ = some (.int .i64 ((rd_T36 l0_3 x6_1).f5)) := (blk_cell BK223.out 5).trans rfl; have hcz51_6 : w50.cell? ⟨gb223, 6, none⟩ = some (.int .u32 ((rd_T36 l0_3 x6_1).f6)) := (blk_cell BK223.out 6).trans rfl; have hcz51_7 : w50.cell? ⟨gb223, 7, none⟩ = some (.int .u32 ((rd_T36 l0_3 x6_1).f7)) := (blk_cell BK223.out 7).trans rfl; have hfz51_0 := blk_frozen BK223.out 0; have hfz51_1 := blk_frozen BK223.out 1; have hfz51_2 := blk_frozen BK223.out 2; have hfz51_3 := blk_frozen BK223.out 3; have hfz51_4 := blk_frozen BK223.out 4; have hfz51_5 := blk_frozen BK223.out 5; have hfz51_6 := blk_frozen BK223.out 6; have hfz51_7 := blk_frozen BK223.out 7) | ((with_reducible refine gate_callee (f := 35) rfl ?_); refine goesL_ (some 58) rfl rfl Tryd.func35 (by kernel_rfl) rfl #[.int .u64 (IntKind.u64.wrap (((rd_T36 l0_3 x6_1).f1) - x5_1))] rfl (by (try simp only [List.map_toArray, List.map_cons, List.map_nil]); first | done | rfl | (simp only [List.length_drop, List.length_take]; rfl)) ?_; (with_reducible refine (strataref01_Uvarint.calls (IntKind.u64.wrap (((rd_T36 l0_3 x6_1).f1) - x5_1)) t228 _ A31.out).mono ?_); rintro e w52 ⟨rfl, hb⟩; refine ⟨_, rfl, ?_⟩; have n0_ := Aside0.mk (Kd.R_below (by (with_reducible repeat (first | apply Kd.R_alloc | apply Kd.R_drewN | apply Kd.R_drew)); exact HO227.out) hb); have n1_ := Aside0.mk (blk_below (g := gb203) (o := .cells #[.int .i64 a0_0, .int .i64 a0_1, .int .u64 a0_2, .slice (some ad222) l0_3.length c0_3] 25 (0, 0)) (by (with_reducible repeat (first | refine blk_drewN ?_ _ | refine blk_drew ?_ | refine blk_alloc ?_ _)); exact BK203.out) hb); have n2_ := Aside0.mk (blk_below (g := gb223) (o := .cells #[.int .i64 ((rd_T36 l0_3 x6_1).f0), .int .u64 ((rd_T36 l0_3 x6_1).f1), .int .u64 ((rd_T36 l0_3 x6_1).f2), .int .i64 ((rd_T36 l0_3 x6_1).f3), .int .i64 ((rd_T36 l0_3 x6_1).f4), .int .i64 ((rd_T36 l0_3 x6_1).f5), .int .u32 ((rd_T36 l0_3 x6_1).f6), .int .u32 ((rd_T36 l0_3 x6_1).f7)] 36 (0, 0)) (by (with_reducible repeat (first | refine blk_drewN ?_ _ | refine blk_drew ?_ | refine blk_alloc ?_ _)); exact BK223.out) hb); have n3_ := Aside0.mk (below_step (by repeat (first | (with_reducible first | exact HB.out | apply below_alloc | apply pw_below_drewN | apply below_drew1 | refine below_set ?_ GE203.out | refine below_set ?_ GE223.out) | exact HB.out)) hb); clear HO227; clear BK203; clear BK223; clear HB; have HO227 := n0_; have BK203 := n1_; have BK223 := n2_; have HB := n3_; clear n0_ n1_ n2_ n3_; (try clear hb); (try clear hb2); (try clear hk); (try clear hi)) | (at_builtin; refine print_append_str (w0 := w) w.heap.size rfl (.tmp 53) _ 72 9 5 rfl Tryd.underlying72 Tryd.underlying9 info5 v226 y225 t228 rfl rfl ?aO ?aB ?aS ?aL ?_; (case aB => exact (by repeat (first | (with_reducible first | exact HB.out | apply below_alloc | apply pw_below_drewN | apply below_drew1 | refine below_set ?_ GE203.out | refine below_set ?_ GE223.out) | exact HB.out))); (case aO => exact (Kd.own_of_R (by (with_reducible repeat (first | apply Kd.R_alloc | apply Kd.R_drewN | apply Kd.R_drew)); exact HO227.out))); (case aS => exact (below_size (by repeat (first | (with_reducible first | exact HB.out | apply below_alloc | apply pw_below_drewN | apply below_drew1 | refine below_set ?_ GE203.out | refine below_set ?_ GE223.out) | exact HB.out)))); (case aL => have := LMc32.out; omega); intro v230 w53 ho0 hb hg; have ho := Kd.R_of_own (enc := Value.int .u8) (h1 := fun _ => rfl) (ok := fun _ => True) ho0 (fun _ _ => trivial); clear ho0; have hat := True.intro; rw [← Ny229.out] at ho; change Kd.R (Kd.int .u8) 5 w53 w.heap.size (fun _ => True) v230 y229 at ho; have n0_ := Aside0.mk (blk_grown (g := gb203) (o := .cells #[.int .i64 a0_0, .int .i64 a0_1, .int .u64 a0_2, .slice (some ad222) l0_3.length c0_3] 25 (0, 0)) (by (with_reducible repeat (first | refine blk_drewN ?_ _ | refine blk_drew ?_ | refine blk_alloc ?_ _)); exact BK203.out) hg (Kd.R_ne HO227.out BK203.out (by decide))); have n1_ := Aside0.mk (blk_grown (g := gb223) (o := .cells #[.int .i64 ((rd_T36 l0_3 x6_1).f0), .int .u64 ((rd_T36 l0_3 x6_1).f1), .int .u64 ((rd_T36 l0_3 x6_1).f2), .int .i64 ((rd_T36 l0_3 x6_1).f3), .int .i64 ((rd_T36 l0_3 x6_1).f4), .int .i64 ((rd_T36 l0_3 x6_1).f5), .int .u32 ((rd_T36 l0_3 x6_1).f6), .int .u32 ((rd_T36 l0_3 x6_1).f7)] 36 (0, 0)) (by (with_reducible repeat (first | refine blk_drewN ?_ _ | refine blk_drew ?_ | refine blk_alloc ?_ _)); exact BK223.out) hg (Kd.R_ne HO227.out BK223.out (by decide))); have n2_ := Aside0.mk (hb); have n3_ := Aside0.mk (ho); clear BK203; clear BK223; clear HB; clear HO227; have BK203 := n0_; have BK223 := n1_; have HB := n2_; have HO231 := n3_; clear n0_ n1_ n2_ n3_; clear ho hb hg hat; have hcz54_0 : w53.cell? ⟨gb223, 0, none⟩ = some (.int .i64 ((rd_T36 l0_3 x6_1).f0)) := (blk_cell BK223.out 0).trans rfl; have hcz54_1 : w53.cell? ⟨gb223, 1, none⟩ = some (.int .u64 ((rd_T36 l0_3 x6_1).f1)) := (blk_cell BK223.out 1).trans rfl; have hcz54_2 : w53.cell? ⟨gb223, 2, none⟩ = some (.int .u64 ((rd_T36 l0_3 x6_1).f2)) := (blk_cell BK223.out 2).trans rfl; have hcz54_3 : w53.cell? ⟨gb223, 3, none⟩ = some (.int .i64 ((rd_T36 l0_3 x6_1).f3)) := (blk_cell BK223.out 3).trans rfl; have hcz54_4 : w53.cell? ⟨gb223, 4, none⟩ = some (.int .i64 ((rd_T36 l0_3 x6_1).f4)) := (blk_cell BK223.out 4).trans rfl; have hcz54_5 : w53.cell? ⟨gb223, 5, none⟩ = some (.int .i64 ((rd_T36 l0_3 x6_1).f5)) := (blk_cell BK223.out 5).trans rfl; have hcz54_6 : w53.cell? ⟨gb223, 6, none⟩ = some (.int .u32 ((rd_T36 l0_3 x6_1).f6)) := (blk_cell BK223.out 6).trans rfl; have hcz54_7 : w53.cell? ⟨gb223, 7, none⟩ = some (.int .u32 ((rd_T36 l0_3 x6_1).f7)) := (blk_cell BK223.out 7).trans rfl; have hfz54_0 := blk_frozen BK223.out 0; have hfz54_1 := blk_frozen BK223.out 1; have hfz54_2 := blk_frozen BK223.out 2; have hfz54_3 := blk_frozen BK223.out 3; have hfz54_4 := blk_frozen BK223.out 4; have hfz54_5 := blk_frozen BK223.out 5; have hfz54_6 := blk_frozen BK223.out 6; have hfz54_7 := blk_frozen BK223.out 7) | ((with_reducible refine gate_callee (f := 35) rfl ?_); refine goesL_ (some 66) rfl rfl Tryd.func35 (by kernel_rfl) rfl #[.int .u64 (IntKind.u64.wrap (((rd_T36 l0_3 x6_1).f2) - ((rd_T36 l0_3 x6_1).f1)))] rfl (by (try simp only [List.map_toArray, List.map_cons, List.map_nil]); first | done | rfl | (simp only [List.length_drop, List.length_take]; rfl)) ?_; (with_reducible refine (strataref01_Uvarint.calls (IntKind.u64.wrap (((rd_T36 l0_3 x6_1).f2) - ((rd_T36 l0_3 x6_1).f1))) t232 _ A33.out).mono ?_); rintro e w55 ⟨rfl, hb⟩; refine ⟨_, rfl, ?_⟩; have n0_ := Aside0.mk (Kd.R_below (by (with_reducible repeat (first | apply Kd.R_alloc | apply Kd.R_drewN | apply Kd.R_drew)); exact HO231.out) hb); have n1_ := Aside0.mk (blk_below (g := gb203) (o := .cells #[.int .i64 a0_0, .int .i64 a0_1, .int .u64 a0_2, .slice (some ad222) l0_3.length c0_3] 25 (0, 0)) (by (with_reducible repeat (first | refine blk_drewN ?_ _ | refine blk_drew ?_ | refine blk_alloc ?_ _)); exact BK203.out) hb); have n2_ := Aside0.mk (blk_below (g := gb223) (o := .cells #[.int .i64 ((rd_T36 l0_3 x6_1).f0), .int .u64 ((rd_T36 l0_3 x6_1).f1), .int .u64 ((rd_T36 l0_3 x6_1).f2), .int .i64 ((rd_T36 l0_3 x6_1).f3), .int .i64 ((rd_T36 l0_3 x6_1).f4), .int .i64 ((rd_T36 l0_3 x6_1).f5), .int .u32 ((rd_T36 l0_3 x6_1).f6), .int .u32 ((rd_T36 l0_3 x6_1).f7)] 36 (0, 0)) (by (with_reducible repeat (first | refine blk_drewN ?_ _ | refine blk_drew ?_ | refine blk_alloc ?_ _)); exact BK223.out) hb); have n3_ := Aside0.mk (below_step (by repeat (first | (with_reducible first | exact HB.out | apply below_alloc | apply pw_below_drewN | apply below_drew1 | refine below_set ?_ GE203.out | refine below_set ?_ GE223.out) | exact HB.out)) hb); clear HO231; clear BK203; clear BK223; clear HB; have HO231 := n0_; have BK203 := n1_; have BK223 := n2_; have HB := n3_; clear n0_ n1_ n2_ n3_; (try clear hb); (try clear hb2); (try clear hk); (try clear hi)) | (at_builtin; refine print_append_str (w0 := w) w.heap.size rfl (.tmp 60) _ 72 9 5 rfl Tryd.underlying72 Tryd.underlying9 info5 v230 y229 t232 rfl rfl ?aO ?aB ?aS ?aL ?_; (case aB => exact (by repeat (first | (with_reducible first | exact HB.out | apply below_alloc | apply pw_below_drewN | apply below_drew1 | refine below_set ?_ GE203.out | refine below_set ?_ GE223.out) | exact HB.out))); (case aO => exact (Kd.own_of_R (by (with_reducible repeat (first | apply Kd.R_alloc | apply Kd.R_drewN | apply Kd.R_drew)); exact HO231.out))); (case aS => exact (below_size (by repeat (first | (with_reducible first | exact HB.out | apply below_alloc | apply pw_below_drewN | apply below_drew1 | refine below_set ?_ GE203.out | refine below_set ?_ GE223.out) | exact HB.out)))); (case aL => have := LMc34.out; omega); intro v234 w56 ho0 hb hg; have ho := Kd.R_of_own (enc := Value.int .u8) (h1 := fun _ => rfl) (ok := fun _ => True) ho0 (fun _ _ => trivial); clear ho0; have hat := True.intro; rw [← Ny233.out] at ho; change Kd.R (Kd.int .u8) 5 w56 w.heap.size (fun _ => True) v234 y233 at ho; have n0_ := Aside0.mk (blk_grown (g := gb203) (o := .cells #[.int .i64 a0_0, .int .i64 a0_1, .int .u64 a0_2, .slice (some ad222) l0_3.length c0_3] 25 (0, 0)) (by (with_reducible repeat (first | refine blk_drewN ?_ _ | refine blk_drew ?_ | refine blk_alloc ?_ _)); exact BK203.out) hg (Kd.R_ne HO231.out BK203.out (by decide))); have n1_ := Aside0.mk (blk_grown (g := gb223) (o := .cells #[.int .i64 ((rd_T36 l0_3 x6_1).f0), .int .u64 ((rd_T36 l0_3 x6_1).f1), .int .u64 ((rd_T36 l0_3 x6_1).f2), .int .i64 ((rd_T36 l0_3 x6_1).f3), .int .i64 ((rd_T36 l0_3 x6_1).f4), .int .i64 ((rd_T36 l0_3 x6_1).f5), .int .u32 ((rd_T36 l0_3 x6_1).f6), .int .u32 ((rd_T36 l0_3 x6_1).f7)] 36 (0, 0)) (by (with_reducible repeat (first | refine blk_drewN ?_ _ | refine blk_drew ?_ | refine blk_alloc ?_ _)); exact BK223.out) hg (Kd.R_ne HO231.out BK223.out (by decide))); have n2_ := Aside0.mk (hb); have n3_ := Aside0.mk (ho); clear BK203; clear BK223; clear HB; clear HO231; have BK203 := n0_; have BK223 := n1_; have HB := n2_; have HO235 := n3_; clear n0_ n1_ n2_ n3_; clear ho hb hg hat; have hcz57_0 : w56.cell? ⟨gb223, 0, none⟩ = some (.int .i64 ((rd_T36 l0_3 x6_1).f0)) := (blk_cell BK223.out 0).trans rfl; have hcz57_1 : w56.cell? ⟨gb223, 1, none⟩ = some (.int .u64 ((rd_T36 l0_3 x6_1).f1)) := (blk_cell BK223.out 1).trans rfl; have hcz57_2 : w56.cell? ⟨gb223, 2, none⟩ = some (.int .u64 ((rd_T36 l0_3 x6_1).f2)) := (blk_cell BK223.out 2).trans rfl; have hcz57_3 : w56.cell? ⟨gb223, 3, none⟩ = some (.int .i64 ((rd_T36 l0_3 x6_1).f3)) := (blk_cell BK223.out 3).trans rfl; have hcz57_4 : w56.cell? ⟨gb223, 4, none⟩ = some (.int .i64 ((rd_T36 l0_3 x6_1).f4)) := (blk_cell BK223.out 4).trans rfl; have hcz57_5 : w56.cell? ⟨gb223, 5, none⟩ = some (.int .i64 ((rd_T36 l0_3 x6_1).f5)) := (blk_cell BK223.out 5).trans rfl; have hcz57_6 : w56.cell? ⟨gb223, 6, none⟩ = some (.int .u32 ((rd_T36 l0_3 x6_1).f6)) := (blk_cell BK223.out 6).trans rfl; have hcz57_7 : w56.cell? ⟨gb223, 7, none⟩ = some (.int .u32 ((rd_T36 l0_3 x6_1).f7)) := (blk_cell BK223.out 7).trans rfl; have hfz57_0 := blk_frozen BK223.out 0; have hfz57_1 := blk_frozen BK223.out 1; have hfz57_2 := blk_frozen BK223.out 2; have hfz57_3 := blk_frozen BK223.out 3; have hfz57_4 := blk_frozen BK223.out 4; have hfz57_5 := blk_frozen BK223.out 5; have hfz57_6 := blk_frozen BK223.out 6; have hfz57_7 := blk_frozen BK223.out 7) | ((with_reducible refine gate_callee (f := 35) rfl ?_); refine goesL_ (some 72) rfl rfl Tryd.func35 (by kernel_rfl) rfl #[.int .u64 (IntKind.u64.wrap ((rd_T36 l0_3 x6_1).f3))] rfl (by (try simp only [List.map_toArray, List.map_cons, List.map_nil]); first | done | rfl | (simp only [List.length_drop, List.length_take]; rfl)) ?_; (with_reducible refine (strataref01_Uvarint.calls (IntKind.u64.wrap ((rd_T36 l0_3 x6_1).f3)) t236 _ A35.out).mono ?_); rintro e w58 ⟨rfl, hb⟩; refine ⟨_, rfl, ?_⟩; have n0_ := Aside0.mk (Kd.R_below (by (with_reducible repeat (first | apply Kd.R_alloc | apply Kd.R_drewN | apply Kd.R_drew)); exact HO235.out) hb); have n1_ := Aside0.mk (blk_below (g := gb203) (o := .cells #[.int .i64 a0_0, .int .i64 a0_1, .int .u64 a0_2, .slice (some ad222) l0_3.length c0_3] 25 (0, 0)) (by (with_reducible repeat (first | refine blk_drewN ?_ _ | refine blk_drew ?_ | refine blk_alloc ?_ _)); exact BK203.out) hb); have n2_ := Aside0.mk (blk_below (g := gb223) (o := .cells #[.int .i64 ((rd_T36 l0_3 x6_1).f0), .int .u64 ((rd_T36 l0_3 x6_1).f1), .int .u64 ((rd_T36 l0_3 x6_1).f2), .int .i64 ((rd_T36 l0_3 x6_1).f3), .int .i64 ((rd_T36 l0_3 x6_1).f4), .int .i64 ((rd_T36 l0_3 x6_1).f5), .int .u32 ((rd_T36 l0_3 x6_1).f6), .int .u32 ((rd_T36 l0_3 x6_1).f7)] 36 (0, 0)) (by (with_reducible repeat (first | refine blk_drewN ?_ _ | refine blk_drew ?_ | refine blk_alloc ?_ _)); exact BK223.out) hb); have n3_ := Aside0.mk (below_step (by repeat (first | (with_reducible first | exact HB.out | apply below_alloc | apply pw_below_drewN | apply below_drew1 | refine below_set ?_ GE203.out | refine below_set ?_ GE223.out) | exact HB.out)) hb); clear HO235; clear BK203; clear BK223; clear HB; have HO235 := n0_; have BK203 := n1_; have BK223 := n2_; have HB := n3_; clear n0_ n1_ n2_ n3_; (try clear hb); (try clear hb2); (try clear hk); (try clear hi)) | (at_builtin; refine print_append_str (w0 := w) w.heap.size rfl (.tmp 68) _ 72 9 5 rfl Tryd.underlying72 Tryd.underlying9 info5 v234 y233 t236 rfl rfl ?aO ?aB ?aS ?aL ?_; (case aB => exact (by repeat (first | (with_reducible first | exact HB.out | apply below_alloc | apply pw_below_drewN | apply below_drew1 | refine below_set ?_ GE203.out | refine below_set ?_ GE223.out) | exact HB.out))); (case aO => exact (Kd.own_of_R (by (with_reducible repeat (first | apply Kd.R_alloc | apply Kd.R_drewN | apply Kd.R_drew)); exact HO235.out))); (case aS => exact (below_size (by repeat (first | (with_reducible first | exact HB.out | apply below_alloc | apply pw_below_drewN | apply below_drew1 | refine below_set ?_ GE203.out | refine below_set ?_ GE223.out) | exact HB.out)))); (case aL => have := LMc36.out; omega); intro v238 w59 ho0 hb hg; have ho := Kd.R_of_own (enc := Value.int .u8) (h1 := fun _ => rfl) (ok := fun _ => True) ho0 (fun _ _ => trivial); clear ho0; have hat := True.intro; rw [← Ny237.out] at ho; change Kd.R (Kd.int .u8) 5 w59 w.heap.size (fun _ => True) v238 y237 at ho; have n0_ := Aside0.mk (blk_grown (g := gb203) (o := .cells #[.int .i64 a0_0, .int .i64 a0_1, .int .u64 a0_2, .slice (some ad222) l0_3.length c0_3] 25 (0, 0)) (by (with_reducible repeat (first | refine blk_drewN ?_ _ | refine blk_drew ?_ | refine blk_alloc ?_ _)); exact BK203.out) hg (Kd.R_ne HO235.out BK203.out (by decide))); have n1_ := Aside0.mk (blk_grown (g := gb223) (o := .cells #[.int .i64 ((rd_T36 l0_3 x6_1).f0), .int .u64 ((rd_T36 l0_3 x6_1).f1), .int .u64 ((rd_T36 l0_3 x6_1).f2), .int .i64 ((rd_T36 l0_3 x6_1).f3), .int .i64 ((rd_T36 l0_3 x6_1).f4), .int .i64 ((rd_T36 l0_3 x6_1).f5), .int .u32 ((rd_T36 l0_3 x6_1).f6), .int .u32 ((rd_T36 l0_3 x6_1).f7)] 36 (0, 0)) (by (with_reducible repeat (first | refine blk_drewN ?_ _ | refine blk_drew ?_ | refine blk_alloc ?_ _)); exact BK223.out) hg (Kd.R_ne HO235.out BK223.out (by decide))); have n2_ := Aside0.mk (hb); have n3_ := Aside0.mk (ho); clear BK203; clear BK223; clear HB; clear HO235; have BK203 := n0_; have BK223 := n1_; have HB := n2_; have HO239 := n3_; clear n0_ n1_ n2_ n3_; clear ho hb hg hat; have hcz60_0 : w59.cell? ⟨gb223, 0, none⟩ = some (.int .i64 ((rd_T36 l0_3 x6_1).f0)) := (blk_cell BK223.out 0).trans rfl; have hcz60_1 : w59.cell? ⟨gb223, 1, none⟩ = some (.int .u64 ((rd_T36 l0_3 x6_1).f1)) := (blk_cell BK223.out 1).trans rfl; have hcz60_2 : w59.cell? ⟨gb223, 2, none⟩ = some (.int .u64 ((rd_T36 l0_3 x6_1).f2)) := (blk_cell BK223.out 2).trans rfl; have hcz60_3 : w59.cell? ⟨gb223, 3, none⟩ = some (.int .i64 ((rd_T36 l0_3 x6_1).f3)) := (blk_cell BK223.out 3).trans rfl; have hcz60_4 : w59.cell? ⟨gb223, 4, none⟩ = some (.int .i64 ((rd_T36 l0_3 x6_1).f4)) := (blk_cell BK223.out 4).trans rfl; have hcz60_5 : w59.cell? ⟨gb223, 5, none⟩ = some (.int .i64 ((rd_T36 l0_3 x6_1).f5)) := (blk_cell BK223.out 5).trans rfl; have hcz60_6 : w59.cell? ⟨gb223, 6, none⟩ = some (.int .u32 ((rd_T36 l0_3 x6_1).f6)) := (blk_cell BK223.out 6).trans rfl; have hcz60_7 : w59.cell? ⟨gb223, 7, none⟩ = some (.int .u32 ((rd_T36 l0_3 x6_1).f7)) := (blk_cell BK223.out 7).trans rfl; have hfz60_0 := blk_frozen BK223.out 0; have hfz60_1 := blk_frozen BK223.out 1; have hfz60_2 := blk_frozen BK223.out 2; have hfz60_3 := blk_frozen BK223.out 3; have hfz60_4 := blk_frozen BK223.out 4; have hfz60_5 := blk_frozen BK223.out 5; have hfz60_6 := blk_frozen BK223.out 6; have hfz60_7 := blk_frozen BK223.out 7) | ((with_reducible refine gate_callee (f := 35) rfl ?_); refine goesL_ (some 78) rfl rfl Tryd.func35 (by kernel_rfl) rfl #[.int .u64 (IntKind.u64.wrap ((rd_T36 l0_3 x6_1).f4))] rfl (by (try simp only [List.map_toArray, List.map_cons, List.map_nil]); first | done | rfl | (simp only [List.length_drop, List.length_take]; rfl)) ?_; (with_reducible refine (strataref01_Uvarint.calls (IntKind.u64.wrap ((rd_T36 l0_3 x6_1).f4)) t240 _ A37.out).mono ?_); rintro e w61 ⟨rfl, hb⟩; refine ⟨_, rfl, ?_⟩; have n0_ := Aside0.mk (Kd.R_below (by (with_reducible repeat (first | apply Kd.R_alloc | apply Kd.R_drewN | apply Kd.R_drew)); exact HO239.out) hb); have n1_ := Aside0.mk (blk_below (g := gb203) (o := .cells #[.int .i64 a0_0, .int .i64 a0_1, .int .u64 a0_2, .slice (some ad222) l0_3.length c0_3] 25 (0, 0)) (by (with_reducible repeat (first | refine blk_drewN ?_ _ | refine blk_drew ?_ | refine blk_alloc ?_ _)); exact BK203.out) hb); have n2_ := Aside0.mk (blk_below (g := gb223) (o := .cells #[.int .i64 ((rd_T36 l0_3 x6_1).f0), .int .u64 ((rd_T36 l0_3 x6_1).f1), .int .u64 ((rd_T36 l0_3 x6_1).f2), .int .i64 ((rd_T36 l0_3 x6_1).f3), .int .i64 ((rd_T36 l0_3 x6_1).f4), .int .i64 ((rd_T36 l0_3 x6_1).f5), .int .u32 ((rd_T36 l0_3 x6_1).f6), .int .u32 ((rd_T36 l0_3 x6_1).f7)] 36 (0, 0)) (by (with_reducible repeat (first | refine blk_drewN ?_ _ | refine blk_drew ?_ | refine blk_alloc ?_ _)); exact BK223.out) hb); have n3_ := Aside0.mk (below_step (by repeat (first | (with_reducible first | exact HB.out | apply below_alloc | apply pw_below_drewN | apply below_drew1 | refine below_set ?_ GE203.out | refine below_set ?_ GE223.out) | exact HB.out)) hb); clear HO239; clear BK203; clear BK223; clear HB; have HO239 := n0_; have BK203 := n1_; have BK223 := n2_; have HB := n3_; clear n0_ n1_ n2_ n3_; (try clear hb); (try clear hb2); (try clear hk); (try clear hi)) | (at_builtin; refine print_append_str (w0 := w) w.heap.size rfl (.tmp 74) _ 72 9 5 rfl Tryd.underlying72 Tryd.underlying9 info5 v238 y237 t240 rfl rfl ?aO ?aB ?aS ?aL ?_; (case aB => exact (by repeat (first | (with_reducible first | exact HB.out | apply below_alloc | apply pw_below_drewN | apply below_drew1 | refine below_set ?_ GE203.out | refine below_set ?_ GE223.out) | exact HB.out))); (case aO => exact (Kd.own_of_R (by (with_reducible repeat (first | apply Kd.R_alloc | apply Kd.R_drewN | apply Kd.R_drew)); exact HO239.out))); (case aS => exact (below_size (by repeat (first | (with_reducible first | exact HB.out | apply below_alloc | apply pw_below_drewN | apply below_drew1 | refine below_set ?_ GE203.out | refine below_set ?_ GE223.out) | exact HB.out)))); (case aL => have := LMc38.out; omega); intro v242 w62 ho0 hb hg; have ho := Kd.R_of_own (enc := Value.int .u8) (h1 := fun _ => rfl) (ok := fun _ => True) ho0 (fun _ _ => trivial); clear ho0; have hat := True.intro; rw [← Ny241.out] at ho; change Kd.R (Kd.int .u8) 5 w62 w.heap.size (fun _ => True) v242 y241 at ho; have n0_ := Aside0.mk (blk_grown (g := gb203) (o := .cells #[.int .i64 a0_0, .int .i64 a0_1, .int .u64 a0_2, .slice (some ad222) l0_3.length c0_3] 25 (0, 0)) (by (with_reducible repeat (first | refine blk_drewN ?_ _ | refine blk_drew ?_ | refine blk_alloc ?_ _)); exact BK203.out) hg (Kd.R_ne HO239.out BK203.out (by decide))); have n1_ := Aside0.mk (blk_grown (g := gb223) (o := .cells #[.int .i64 ((rd_T36 l0_3 x6_1).f0), .int .u64 ((rd_T36 l0_3 x6_1).f1), .int .u64 ((rd_T36 l0_3 x6_1).f2), .int .i64 ((rd_T36 l0_3 x6_1).f3), .int .i64 ((rd_T36 l0_3 x6_1).f4), .int .i64 ((rd_T36 l0_3 x6_1).f5), .int .u32 ((rd_T36 l0_3 x6_1).f6), .int .u32 ((rd_T36 l0_3 x6_1).f7)] 36 (0, 0)) (by (with_reducible repeat (first | refine blk_drewN ?_ _ | refine blk_drew ?_ | refine blk_alloc ?_ _)); exact BK223.out) hg (Kd.R_ne HO239.out BK223.out (by decide))); have n2_ := Aside0.mk (hb); have n3_ := Aside0.mk (ho); clear BK203; clear BK223; clear HB; clear HO239; have BK203 := n0_; have BK223 := n1_; have HB := n2_; have HO243 := n3_; clear n0_ n1_ n2_ n3_; clear ho hb hg hat; have hcz63_0 : w62.cell? ⟨gb223, 0, none⟩ = some (.int .i64 ((rd_T36 l0_3 x6_1).f0)) := (blk_cell BK223.out 0).trans rfl; have hcz63_1 : w62.cell? ⟨gb223, 1, none⟩ = some (.int .u64 ((rd_T36 l0_3 x6_1).f1)) := (blk_cell BK223.out 1).trans rfl; have hcz63_2 : w62.cell? ⟨gb223, 2, none⟩ = some (.int .u64 ((rd_T36 l0_3 x6_1).f2)) := (blk_cell BK223.out 2).trans rfl; have hcz63_3 : w62.cell? ⟨gb223, 3, none⟩ = some (.int .i64 ((rd_T36 l0_3 x6_1).f3)) := (blk_cell BK223.out 3).trans rfl; have hcz63_4 : w62.cell? ⟨gb223, 4, none⟩ = some (.int .i64 ((rd_T36 l0_3 x6_1).f4)) := (blk_cell BK223.out 4).trans rfl; have hcz63_5 : w62.cell? ⟨gb223, 5, none⟩ = some (.int .i64 ((rd_T36 l0_3 x6_1).f5)) := (blk_cell BK223.out 5).trans rfl; have hcz63_6 : w62.cell? ⟨gb223, 6, none⟩ = some (.int .u32 ((rd_T36 l0_3 x6_1).f6)) := (blk_cell BK223.out 6).trans rfl; have hcz63_7 : w62.cell? ⟨gb223, 7, none⟩ = some (.int .u32 ((rd_T36 l0_3 x6_1).f7)) := (blk_cell BK223.out 7).trans rfl; have hfz63_0 := blk_frozen BK223.out 0; have hfz63_1 := blk_frozen BK223.out 1; have hfz63_2 := blk_frozen BK223.out 2; have hfz63_3 := blk_frozen BK223.out 3; have hfz63_4 := blk_frozen BK223.out 4; have hfz63_5 := blk_frozen BK223.out 5; have hfz63_6 := blk_frozen BK223.out 6; have hfz63_7 := blk_frozen BK223.out 7) | ((with_reducible refine gate_callee (f := 35) rfl ?_); refine goesL_ (some 84) rfl rfl Tryd.func35 (by kernel_rfl) rfl #[.int .u64 (IntKind.u64.wrap ((rd_T36 l0_3 x6_1).f5))] rfl (by (try simp only [List.map_toArray, List.map_cons, List.map_nil]); first | done | rfl | (simp only [List.length_drop, List.length_take]; rfl)) ?_; (with_reducible refine (strataref01_Uvarint.calls (IntKind.u64.wrap ((rd_T36 l0_3 x6_1).f5)) t244 _ A39.out).mono ?_); rintro e w64 ⟨rfl, hb⟩; refine ⟨_, rfl, ?_⟩; have n0_ := Aside0.mk (Kd.R_below (by (with_reducible repeat (first | apply Kd.R_alloc | apply Kd.R_drewN | apply Kd.R_drew)); exact HO243.out) hb); have n1_ := Aside0.mk (blk_below (g := gb203) (o := .cells #[.int .i64 a0_0, .int .i64 a0_1, .int .u64 a0_2, .slice (some ad222) l0_3.length c0_3] 25 (0, 0)) (by (with_reducible repeat (first | refine blk_drewN ?_ _ | refine blk_drew ?_ | refine blk_alloc ?_ _)); exact BK203.out) hb); have n2_ := Aside0.mk (blk_below (g := gb223) (o := .cells #[.int .i64 ((rd_T36 l0_3 x6_1).f0), .int .u64 ((rd_T36 l0_3 x6_1).f1), .int .u64 ((rd_T36 l0_3 x6_1).f2), .int .i64 ((rd_T36 l0_3 x6_1).f3), .int .i64 ((rd_T36 l0_3 x6_1).f4), .int .i64 ((rd_T36 l0_3 x6_1).f5), .int .u32 ((rd_T36 l0_3 x6_1).f6), .int .u32 ((rd_T36 l0_3 x6_1).f7)] 36 (0, 0)) (by (with_reducible repeat (first | refine blk_drewN ?_ _ | refine blk_drew ?_ | refine blk_alloc ?_ _)); exact BK223.out) hb); have n3_ := Aside0.mk (below_step (by repeat (first | (with_reducible first | exact HB.out | apply below_alloc | apply pw_below_drewN | apply below_drew1 | refine below_set ?_ GE203.out | refine below_set ?_ GE223.out) | exact HB.out)) hb); clear HO243; clear BK203; clear BK223; clear HB; have HO243 := n0_; have BK203 := n1_; have BK223 := n2_; have HB := n3_; clear n0_ n1_ n2_ n3_; (try clear hb); (try clear hb2); (try clear hk); (try clear hi)) | (at_builtin; refine print_append_str (w0 := w) w.heap.size rfl (.tmp 80) _ 72 9 5 rfl Tryd.underlying72 Tryd.underlying9 info5 v242 y241 t244 rfl rfl ?aO ?aB ?aS ?aL ?_; (case aB => exact (by repeat (first | (with_reducible first | exact HB.out | apply below_alloc | apply pw_below_drewN | apply below_drew1 | refine below_set ?_ GE203.out | refine below_set ?_ GE223.out) | exact HB.out))); (case aO => exact (Kd.own_of_R (by (with_reducible repeat (first | apply Kd.R_alloc | apply Kd.R_drewN | apply Kd.R_drew)); exact HO243.out))); (case aS => exact (below_size (by repeat (first | (with_reducible first | exact HB.out | apply below_alloc | apply pw_below_drewN | apply below_drew1 | refine below_set ?_ GE203.out | refine below_set ?_ GE223.out) | exact HB.out)))); (case aL => have := LMc40.out; omega); intro v246 w65 ho0 hb hg; have ho := Kd.R_of_own (enc := Value.int .u8) (h1 := fun _ => rfl) (ok := fun _ => True) ho0 (fun _ _ => trivial); clear ho0; have hat := True.intro; rw [← Ny245.out] at ho; change Kd.R (Kd.int .u8) 5 w65 w.heap.size (fun _ => True) v246 y245 at ho; have n0_ := Aside0.mk (blk_grown (g := gb203) (o := .cells #[.int .i64 a0_0, .int .i64 a0_1, .int .u64 a0_2, .slice (some ad222) l0_3.length c0_3] 25 (0, 0)) (by (with_reducible repeat (first | refine blk_drewN ?_ _ | refine blk_drew ?_ | refine blk_alloc ?_ _)); exact BK203.out) hg (Kd.R_ne HO243.out BK203.out (by decide))); have n1_ := Aside0.mk (blk_grown (g := gb223) (o := .cells #[.int .i64 ((rd_T36 l0_3 x6_1).f0), .int .u64 ((rd_T36 l0_3 x6_1).f1), .int .u64 ((rd_T36 l0_3 x6_1).f2), .int .i64 ((rd_T36 l0_3 x6_1).f3), .int .i64 ((rd_T36 l0_3 x6_1).f4), .int .i64 ((rd_T36 l0_3 x6_1).f5), .int .u32 ((rd_T36 l0_3 x6_1).f6), .int .u32 ((rd_T36 l0_3 x6_1).f7)] 36 (0, 0)) (by (with_reducible repeat (first | refine blk_drewN ?_ _ | refine blk_drew ?_ | refine blk_alloc ?_ _)); exact BK223.out) hg (Kd.R_ne HO243.out BK223.out (by decide))); have n2_ := Aside0.mk (hb); have n3_ := Aside0.mk (ho); clear BK203; clear BK223; clear HB; clear HO243; have BK203 := n0_; have BK223 := n1_; have HB := n2_; have HO247 := n3_; clear n0_ n1_ n2_ n3_; clear ho hb hg hat; have hcz66_0 : w65.cell? ⟨gb223, 0, none⟩ = some (.int .i64 ((rd_T36 l0_3 x6_1).f0)) := (blk_cell BK223.out 0).trans rfl; have hcz66_1 : w65.cell? ⟨gb223, 1, none⟩ = some (.int .u64 ((rd_T36 l0_3 x6_1).f1)) := (blk_cell BK223.out 1).trans rfl; have hcz66_2 : w65.cell? ⟨gb223, 2, none⟩ = some (.int .u64 ((rd_T36 l0_3 x6_1).f2)) := (blk_cell BK223.out 2).trans rfl; have hcz66_3 : w65.cell? ⟨gb223, 3, none⟩ = some (.int .i64 ((rd_T36 l0_3 x6_1).f3)) := (blk_cell BK223.out 3).trans rfl; have hcz66_4 : w65.cell? ⟨gb223, 4, none⟩ = some (.int .i64 ((rd_T36 l0_3 x6_1).f4)) := (blk_cell BK223.out 4).trans rfl; have hcz66_5 : w65.cell? ⟨gb223, 5, none⟩ = some (.int .i64 ((rd_T36 l0_3 x6_1).f5)) := (blk_cell BK223.out 5).trans rfl; have hcz66_6 : w65.cell? ⟨gb223, 6, none⟩ = some (.int .u32 ((rd_T36 l0_3 x6_1).f6)) := (blk_cell BK223.out 6).trans rfl; have hcz66_7 : w65.cell? ⟨gb223, 7, none⟩ = some (.int .u32 ((rd_T36 l0_3 x6_1).f7)) := (blk_cell BK223.out 7).trans rfl; have hfz66_0 := blk_frozen BK223.out 0; have hfz66_1 := blk_frozen BK223.out 1; have hfz66_2 := blk_frozen BK223.out 2; have hfz66_3 := blk_frozen BK223.out 3; have hfz66_4 := blk_frozen BK223.out 4; have hfz66_5 := blk_frozen BK223.out 5; have hfz66_6 := blk_frozen BK223.out 6; have hfz66_7 := blk_frozen BK223.out 7) | ((with_reducible refine gate_callee (f := 36) rfl ?_); refine goesL_ (some 89) rfl rfl Tryd.func36 (by kernel_rfl) rfl #[.int .u32 ((rd_T36 l0_3 x6_1).f6)] rfl (by (try simp only [List.map_toArray, List.map_cons, List.map_nil]); first | done | rfl | (simp only [List.length_drop, List.length_take]; rfl)) ?_; (with_reducible refine (strataref01_Fixed32.calls ((rd_T36 l0_3 x6_1).f6) t248 _ A41.out).mono ?_); rintro e w67 ⟨rfl, hb⟩; refine ⟨_, rfl, ?_⟩; have n0_ := Aside0.mk (Kd.R_below (by (with_reducible repeat (first | apply Kd.R_alloc | apply Kd.R_drewN | apply Kd.R_drew)); exact HO247.out) hb); have n1_ := Aside0.mk (blk_below (g := gb203) (o := .cells #[.int .i64 a0_0, .int .i64 a0_1, .int .u64 a0_2, .slice (some ad222) l0_3.length c0_3] 25 (0, 0)) (by (with_reducible repeat (first | refine blk_drewN ?_ _ | refine blk_drew ?_ | refine blk_alloc ?_ _)); exact BK203.out) hb); have n2_ := Aside0.mk (blk_below (g := gb223) (o := .cells #[.int .i64 ((rd_T36 l0_3 x6_1).f0), .int .u64 ((rd_T36 l0_3 x6_1).f1), .int .u64 ((rd_T36 l0_3 x6_1).f2), .int .i64 ((rd_T36 l0_3 x6_1).f3), .int .i64 ((rd_T36 l0_3 x6_1).f4), .int .i64 ((rd_T36 l0_3 x6_1).f5), .int .u32 ((rd_T36 l0_3 x6_1).f6), .int .u32 ((rd_T36 l0_3 x6_1).f7)] 36 (0, 0)) (by (with_reducible repeat (first | refine blk_drewN ?_ _ | refine blk_drew ?_ | refine blk_alloc ?_ _)); exact BK223.out) hb); have n3_ := Aside0.mk (below_step (by repeat (first | (with_reducible first | exact HB.out | apply below_alloc | apply pw_below_drewN | apply below_drew1 | refine below_set ?_ GE203.out | refine below_set ?_ GE223.out) | exact HB.out)) hb); clear HO247; clear BK203; clear BK223; clear HB; have HO247 := n0_; have BK203 := n1_; have BK223 := n2_; have HB := n3_; clear n0_ n1_ n2_ n3_; (try clear hb); (try clear hb2); (try clear hk); (try clear hi)) | (at_builtin; refine print_append_str (w0 := w) w.heap.size rfl (.tmp 86) _ 72 9 5 rfl Tryd.underlying72 Tryd.underlying9 info5 v246 y245 t248 rfl rfl ?aO ?aB ?aS ?aL ?_; (case aB => exact (by repeat (first | (with_reducible first | exact HB.out | apply below_alloc | apply pw_below_drewN | apply below_drew1 | refine below_set ?_ GE203.out | refine below_set ?_ GE223.out) | exact HB.out))); (case aO => exact (Kd.own_of_R (by (with_reducible repeat (first | apply Kd.R_alloc | apply Kd.R_drewN | apply Kd.R_drew)); exact HO247.out))); (case aS => exact (below_size (by repeat (first | (with_reducible first | exact HB.out | apply below_alloc | apply pw_below_drewN | apply below_drew1 | refine below_set ?_ GE203.out | refine below_set ?_ GE223.out) | exact HB.out)))); (case aL => have := LMc42.out; omega); intro v250 w68 ho0 hb hg; have ho := Kd.R_of_own (enc := Value.int .u8) (h1 := fun _ => rfl) (ok := fun _ => True) ho0 (fun _ _ => trivial); clear ho0; have hat := True.intro; rw [← Ny249.out] at ho; change Kd.R (Kd.int .u8) 5 w68 w.heap.size (fun _ => True) v250 y249 at ho; have n0_ := Aside0.mk (blk_grown (g := gb203) (o := .cells #[.int .i64 a0_0, .int .i64 a0_1, .int .u64 a0_2, .slice (some ad222) l0_3.length c0_3] 25 (0, 0)) (by (with_reducible repeat (first | refine blk_drewN ?_ _ | refine blk_drew ?_ | refine blk_alloc ?_ _)); exact BK203.out) hg (Kd.R_ne HO247.out BK203.out (by decide))); have n1_ := Aside0.mk (blk_grown (g := gb223) (o := .cells #[.int .i64 ((rd_T36 l0_3 x6_1).f0), .int .u64 ((rd_T36 l0_3 x6_1).f1), .int .u64 ((rd_T36 l0_3 x6_1).f2), .int .i64 ((rd_T36 l0_3 x6_1).f3), .int .i64 ((rd_T36 l0_3 x6_1).f4), .int .i64 ((rd_T36 l0_3 x6_1).f5), .int .u32 ((rd_T36 l0_3 x6_1).f6), .int .u32 ((rd_T36 l0_3 x6_1).f7)] 36 (0, 0)) (by (with_reducible repeat (first | refine blk_drewN ?_ _ | refine blk_drew ?_ | refine blk_alloc ?_ _)); exact BK223.out) hg (Kd.R_ne HO247.out BK223.out (by decide))); have n2_ := Aside0.mk (hb); have n3_ := Aside0.mk (ho); clear BK203; clear BK223; clear HB; clear HO247; have BK203 := n0_; have BK223 := n1_; have HB := n2_; have HO251 := n3_; clear n0_ n1_ n2_ n3_; clear ho hb hg hat; have hcz69_0 : w68.cell? ⟨gb223, 0, none⟩ = some (.int .i64 ((rd_T36 l0_3 x6_1).f0)) := (blk_cell BK223.out 0).trans rfl; have hcz69_1 : w68.cell? ⟨gb223, 1, none⟩ = some (.int .u64 ((rd_T36 l0_3 x6_1).f1)) := (blk_cell BK223.out 1).trans rfl; have hcz69_2 : w68.cell? ⟨gb223, 2, none⟩ = some (.int .u64 ((rd_T36 l0_3 x6_1).f2)) := (blk_cell BK223.out 2).trans rfl; have hcz69_3 : w68.cell? ⟨gb223, 3, none⟩ = some (.int .i64 ((rd_T36 l0_3 x6_1).f3)) := (blk_cell BK223.out 3).trans rfl; have hcz69_4 : w68.cell? ⟨gb223, 4, none⟩ = some (.int .i64 ((rd_T36 l0_3 x6_1).f4)) := (blk_cell BK223.out 4).trans rfl; have hcz69_5 : w68.cell? ⟨gb223, 5, none⟩ = some (.int .i64 ((rd_T36 l0_3 x6_1).f5)) := (blk_cell BK223.out 5).trans rfl; have hcz69_6 : w68.cell? ⟨gb223, 6, none⟩ = some (.int .u32 ((rd_T36 l0_3 x6_1).f6)) := (blk_cell BK223.out 6).trans rfl; have hcz69_7 : w68.cell? ⟨gb223, 7, none⟩ = some (.int .u32 ((rd_T36 l0_3 x6_1).f7)) := (blk_cell BK223.out 7).trans rfl; have hfz69_0 := blk_frozen BK223.out 0; have hfz69_1 := blk_frozen BK223.out 1; have hfz69_2 := blk_frozen BK223.out 2; have hfz69_3 := blk_frozen BK223.out 3; have hfz69_4 := blk_frozen BK223.out 4; have hfz69_5 := blk_frozen BK223.out 5; have hfz69_6 := blk_frozen BK223.out 6; have hfz69_7 := blk_frozen BK223.out 7) | ((with_reducible refine gate_callee (f := 36) rfl ?_); refine goesL_ (some 94) rfl rfl Tryd.func36 (by kernel_rfl) rfl #[.int .u32 ((rd_T36 l0_3 x6_1).f7)] rfl (by (try simp only [List.map_toArray, List.map_cons, List.map_nil]); first | done | rfl | (simp only [List.length_drop, List.length_take]; rfl)) ?_; (with_reducible refine (strataref01_Fixed32.calls ((rd_T36 l0_3 x6_1).f7) t252 _ A43.out).mono ?_); rintro e w70 ⟨rfl, hb⟩; refine ⟨_, rfl, ?_⟩; have n0_ := Aside0.mk (Kd.R_below (by (with_reducible repeat (first | apply Kd.R_alloc | apply Kd.R_drewN | apply Kd.R_drew)); exact HO251.out) hb); have n1_ := Aside0.mk (blk_below (g := gb203) (o := .cells #[.int .i64 a0_0, .int .i64 a0_1, .int .u64 a0_2, .slice (some ad222) l0_3.length c0_3] 25 (0, 0)) (by (with_reducible repeat (first | refine blk_drewN ?_ _ | refine blk_drew ?_ | refine blk_alloc ?_ _)); exact BK203.out) hb); have n2_ := Aside0.mk (blk_below (g := gb223) (o := .cells #[.int .i64 ((rd_T36 l0_3 x6_1).f0), .int .u64 ((rd_T36 l0_3 x6_1).f1), .int .u64 ((rd_T36 l0_3 x6_1).f2), .int .i64 ((rd_T36 l0_3 x6_1).f3), .int .i64 ((rd_T36 l0_3 x6_1).f4), .int .i64 ((rd_T36 l0_3 x6_1).f5), .int .u32 ((rd_T36 l0_3 x6_1).f6), .int .u32 ((rd_T36 l0_3 x6_1).f7)] 36 (0, 0)) (by (with_reducible repeat (first | refine blk_drewN ?_ _ | refine blk_drew ?_ | refine blk_alloc ?_ _)); exact BK223.out) hb); have n3_ := Aside0.mk (below_step (by repeat (first | (with_reducible first | exact HB.out | apply below_alloc | apply pw_below_drewN | apply below_drew1 | refine below_set ?_ GE203.out | refine below_set ?_ GE223.out) | exact HB.out)) hb); clear HO251; clear BK203; clear BK223; clear HB; have HO251 := n0_; have BK203 := n1_; have BK223 := n2_; have HB := n3_; clear n0_ n1_ n2_ n3_; (try clear hb); (try clear hb2); (try clear hk); (try clear hi)) | (at_builtin; refine print_append_str (w0 := w) w.heap.size rfl (.tmp 91) _ 72 9 5 rfl Tryd.underlying72 Tryd.underlying9 info5 v250 y249 t252 rfl rfl ?aO ?aB ?aS ?aL ?_; (case aB => exact (by repeat (first | (with_reducible first | exact HB.out | apply below_alloc | apply pw_below_drewN | apply below_drew1 | refine below_set ?_ GE203.out | refine below_set ?_ GE223.out) | exact HB.out))); (case aO => exact (Kd.own_of_R (by (with_reducible repeat (first | apply Kd.R_alloc | apply Kd.R_drewN | apply Kd.R_drew)); exact HO251.out))); (case aS => exact (below_size (by repeat (first | (with_reducible first | exact HB.out | apply below_alloc | apply pw_below_drewN | apply below_drew1 | refine below_set ?_ GE203.out | refine below_set ?_ GE223.out) | exact HB.out)))); (case aL => have := LMc44.out; omega); intro v254 w71 ho0 hb hg; have ho := Kd.R_of_own (enc := Value.int .u8) (h1 := fun _ => rfl) (ok := fun _ => True) ho0 (fun _ _ => trivial); clear ho0; have hat := True.intro; rw [← Ny253.out] at ho; change Kd.R (Kd.int .u8) 5 w71 w.heap.size (fun _ => True) v254 y253 at ho; have n0_ := Aside0.mk (blk_grown (g := gb203) (o := .cells #[.int .i64 a0_0, .int .i64 a0_1, .int .u64 a0_2, .slice (some ad222) l0_3.length c0_3] 25 (0, 0)) (by (with_reducible repeat (first | refine blk_drewN ?_ _ | refine blk_drew ?_ | refine blk_alloc ?_ _)); exact BK203.out) hg (Kd.R_ne HO251.out BK203.out (by decide))); have n1_ := Aside0.mk (blk_grown (g := gb223) (o := .cells #[.int .i64 ((rd_T36 l0_3 x6_1).f0), .int .u64 ((rd_T36 l0_3 x6_1).f1), .int .u64 ((rd_T36 l0_3 x6_1).f2), .int .i64 ((rd_T36 l0_3 x6_1).f3), .int .i64 ((rd_T36 l0_3 x6_1).f4), .int .i64 ((rd_T36 l0_3 x6_1).f5), .int .u32 ((rd_T36 l0_3 x6_1).f6), .int .u32 ((rd_T36 l0_3 x6_1).f7)] 36 (0, 0)) (by (with_reducible repeat (first | refine blk_drewN ?_ _ | refine blk_drew ?_ | refine blk_alloc ?_ _)); exact BK223.out) hg (Kd.R_ne HO251.out BK223.out (by decide))); have n2_ := Aside0.mk (hb); have n3_ := Aside0.mk (ho); clear BK203; clear BK223; clear HB; clear HO251; have BK203 := n0_; have BK223 := n1_; have HB := n2_; have HO255 := n3_; clear n0_ n1_ n2_ n3_; clear ho hb hg hat; have hcz72_0 : w71.cell? ⟨gb223, 0, none⟩ = some (.int .i64 ((rd_T36 l0_3 x6_1).f0)) := (blk_cell BK223.out 0).trans rfl; have hcz72_1 : w71.cell? ⟨gb223, 1, none⟩ = some (.int .u64 ((rd_T36 l0_3 x6_1).f1)) := (blk_cell BK223.out 1).trans rfl; have hcz72_2 : w71.cell? ⟨gb223, 2, none⟩ = some (.int .u64 ((rd_T36 l0_3 x6_1).f2)) := (blk_cell BK223.out 2).trans rfl; have hcz72_3 : w71.cell? ⟨gb223, 3, none⟩ = some (.int .i64 ((rd_T36 l0_3 x6_1).f3)) := (blk_cell BK223.out 3).trans rfl; have hcz72_4 : w71.cell? ⟨gb223, 4, none⟩ = some (.int .i64 ((rd_T36 l0_3 x6_1).f4)) := (blk_cell BK223.out 4).trans rfl; have hcz72_5 : w71.cell? ⟨gb223, 5, none⟩ = some (.int .i64 ((rd_T36 l0_3 x6_1).f5)) := (blk_cell BK223.out 5).trans rfl; have hcz72_6 : w71.cell? ⟨gb223, 6, none⟩ = some (.int .u32 ((rd_T36 l0_3 x6_1).f6)) := (blk_cell BK223.out 6).trans rfl; have hcz72_7 : w71.cell? ⟨gb223, 7, none⟩ = some (.int .u32 ((rd_T36 l0_3 x6_1).f7)) := (blk_cell BK223.out 7).trans rfl; have hfz72_0 := blk_frozen BK223.out 0; have hfz72_1 := blk_frozen BK223.out 1; have hfz72_2 := blk_frozen BK223.out 2; have hfz72_3 := blk_frozen BK223.out 3; have hfz72_4 := blk_frozen BK223.out 4; have hfz72_5 := blk_frozen BK223.out 5; have hfz72_6 := blk_frozen BK223.out 6; have hfz72_7 := blk_frozen BK223.out 7))
                                    go_roundg k1
                                    case measure => have := HK1.out; omega
                                    case rel => exact ⟨(y253), ((rd_T36 l0_3 x6_1).f2), (wrap64 (x6_1 + 1)), (by first | rfl | (simp; done) | (simp [*]; done)), (by first | rfl | (simp; done) | (simp [*]; done)), H', ⟨by have := HK1.out; omega⟩, ⟨by (with_reducible repeat (first | apply Kd.R_alloc | apply Kd.R_drewN | apply Kd.R_drew)); exact HO255.out⟩, ⟨by (with_reducible repeat (first | refine blk_drewN ?_ _ | refine blk_drew ?_ | refine blk_alloc ?_ _)); exact BK203.out⟩, ⟨by repeat (first | (with_reducible first | exact HB.out | apply below_alloc | apply pw_below_drewN | apply below_drew1 | refine below_set ?_ GE203.out | refine below_set ?_ GE223.out) | exact HB.out)⟩⟩
                                  · rw [if_neg c44] at H
                                    exact absurd H (by simp)
                                · rw [if_neg c42] at H
                                  exact absurd H (by simp)
                              · rw [if_neg c40] at H
                                exact absurd H (by simp)
                            · rw [if_neg c38] at H
                              exact absurd H (by simp)
                          · rw [if_neg c36] at H
                            exact absurd H (by simp)
                        · rw [if_neg c34] at H
                          exact absurd H (by simp)
                      · rw [if_neg c32] at H
                        exact absurd H (by simp)
                    · rw [if_neg c30] at H
                      exact absurd H (by simp)
                  · rw [if_neg c28] at H
                    exact absurd H (by simp)
                · rw [if_neg c27] at H
                  have c27b0 : decide (x6_1 < (l0_3.length : Int)) = false := decide_eq_false c27
                  clear c27
                  replace H := Option.bind_eq_some_iff.mp H
                  obtain ⟨t221, A730, H⟩ := H
                  replace H : (some (t221, 0)) = some (r1, r2) := H
                  have A73 := Aside0.mk A730
                  clear A730
                  simp only [Option.some.injEq, Prod.mk.injEq] at H
                  obtain ⟨rfl, rfl⟩ := H
                  have hcz74_0 : wr.cell? ⟨gb203, 0, none⟩ = some (.int .i64 a0_0) := (blk_cell BK203.out 0).trans rfl
                  have hcz74_1 : wr.cell? ⟨gb203, 1, none⟩ = some (.int .i64 a0_1) := (blk_cell BK203.out 1).trans rfl
                  have hcz74_2 : wr.cell? ⟨gb203, 2, none⟩ = some (.int .u64 a0_2) := (blk_cell BK203.out 2).trans rfl
                  have hcz74_3 : wr.cell? ⟨gb203, 3, none⟩ = some (.slice A0_3 l0_3.length c0_3) := (blk_cell BK203.out 3).trans rfl
                  have hfz74_0 := blk_frozen BK203.out 0
                  have hfz74_1 := blk_frozen BK203.out 1
                  have hfz74_2 := blk_frozen BK203.out 2
                  have hfz74_3 := blk_frozen BK203.out 3
                  obtain ⟨Ao75, co75, eo75⟩ := Kd.R_slice HO_4.out
                  subst eo75
                  go_wp2_with (first | ((with_reducible refine gate_callee (f := 37) rfl ?_); refine goesL_ (some 99) rfl rfl Tryd.func37 (by kernel_rfl) rfl #[.string (⟨#[83, 84, 82, 65, 77, 65, 78, 49]⟩ : ByteArray), .slice Ao75 x4_1.length co75] rfl (by (try simp only [List.map_toArray, List.map_cons, List.map_nil]); first | done | rfl | (simp only [List.length_drop, List.length_take]; rfl)) ?_; (with_reducible refine (strataref12_sealed.calls k1 (⟨#[83, 84, 82, 65, 77, 65, 78, 49]⟩ : ByteArray) _ _ x4_1 t221 _ ?side1 ?side2 A73.out).mono ?_); (case side1 => repeat (first | exact (Kd.R_reads' HO_4.out).2.2 | (with_reducible refine Kd.C_alloc ?_ _) | (with_reducible refine Kd.C_drewN ?_ _) | (with_reducible refine Kd.C_drew ?_))); (case side2 => exact (Kd.R_reads' HO_4.out).2.1); rintro e w76 ⟨rfl, hb⟩; refine ⟨_, rfl, ?_⟩; have n0_ := Aside0.mk (Kd.R_below (by (with_reducible repeat (first | apply Kd.R_alloc | apply Kd.R_drewN | apply Kd.R_drew)); exact HO_4.out) hb); have n1_ := Aside0.mk (blk_below (g := gb203) (o := .cells #[.int .i64 a0_0, .int .i64 a0_1, .int .u64 a0_2, .slice A0_3 l0_3.length c0_3] 25 (0, 0)) (by (with_reducible repeat (first | refine blk_drewN ?_ _ | refine blk_drew ?_ | refine blk_alloc ?_ _)); exact BK203.out) hb); have n2_ := Aside0.mk (below_step (by repeat (first | (with_reducible first | exact HB.out | apply below_alloc | apply pw_below_drewN | apply below_drew1 | refine below_set ?_ GE203.out) | exact HB.out)) hb); clear HO_4; clear BK203; clear HB; have HO_4 := n0_; have BK203 := n1_; have HB := n2_; clear n0_ n1_ n2_; (try clear hb); (try clear hb2); (try clear hk); (try clear hi)))
                  go_ret2
                  exact ⟨by first | rfl | (simp [errW_none, errW_some] <;> rfl) | (simp [*, errW_none, errW_some] <;> rfl), by repeat (first | (with_reducible first | exact HB.out | apply below_alloc | apply pw_below_drewN | apply below_drew1 | refine below_set ?_ GE203.out) | exact HB.out)⟩
          · rw [if_neg c11] at H
            exact absurd H (by simp)
        · rw [if_neg c9] at H
          exact absurd H (by simp)
      · rw [if_neg c7] at H
        exact absurd H (by simp)
    · rw [if_neg c5] at H
      exact absurd H (by simp)
  · replace c3 := Bool.eq_false_iff.mpr c3
    subst c3
    have H1 : (some ((⟨#[]⟩ : ByteArray), 2)) = some (r1, r2) := by rw [if_neg (show ¬ (false = true) by decide)] at H; exact H
    clear H
    have H := H1
    clear H1
    simp only [Option.some.injEq, Prod.mk.injEq] at H
    obtain ⟨rfl, rfl⟩ := H
    go_enter Tryd.func9, Tryd.ntmps9
    go_wp2_with (first | ((with_reducible refine gate_dst (N := 1) rfl ?_); refine box_event ?hg (N := 1) ?hd (cs := #[.int .i64 a0_0, .int .i64 a0_1, .int .u64 a0_2, .slice A0_3 l0_3.length c0_3]) (t := 25) ?hr ?_; (case hd => rfl); (case hg => rfl); (case hr => first | (go_simp; done) | (go_simp; rfl)); intro gb203 hg w77 hbox hb; have n0_ := Aside0.mk (below_step (by repeat (first | (with_reducible first | exact HB.out | apply below_alloc | apply pw_below_drewN | apply below_drew1) | exact HB.out)) hb); have n1_ := Aside0.mk (hbox); have n2_ := Aside0.mk ((by rw [hg]; exact (below_size (by repeat (first | (with_reducible first | exact HB.out | apply below_alloc | apply pw_below_drewN | apply below_drew1) | exact HB.out))) : w.heap.size ≤ gb203)); have n3_ := Aside0.mk ((by rw [hg]; exact (below_size (by repeat (first | (with_reducible first | exact HB.out | apply below_alloc | apply pw_below_drewN | apply below_drew1) | exact HB.out))) : w.heap.size ≤ gb203)); clear HB; have HB := n0_; have BK203 := n1_; have GW203 := n2_; have GE203 := n3_; clear n0_ n1_ n2_ n3_; clear hb hbox hg; have hcz78_0 : w77.cell? ⟨gb203, 0, none⟩ = some (.int .i64 a0_0) := (blk_cell BK203.out 0).trans rfl; have hcz78_1 : w77.cell? ⟨gb203, 1, none⟩ = some (.int .i64 a0_1) := (blk_cell BK203.out 1).trans rfl; have hcz78_2 : w77.cell? ⟨gb203, 2, none⟩ = some (.int .u64 a0_2) := (blk_cell BK203.out 2).trans rfl; have hcz78_3 : w77.cell? ⟨gb203, 3, none⟩ = some (.slice A0_3 l0_3.length c0_3) := (blk_cell BK203.out 3).trans rfl; have hfz78_0 := blk_frozen BK203.out 0; have hfz78_1 := blk_frozen BK203.out 1; have hfz78_2 := blk_frozen BK203.out 2; have hfz78_3 := blk_frozen BK203.out 3) | ((with_reducible refine gate_callee (f := 34) rfl ?_); refine goesL_ (some 9) rfl rfl Tryd.func34 (by kernel_rfl) rfl #[.agg #[.int .i64 a0_0, .int .i64 a0_1, .int .u64 a0_2, .slice A0_3 l0_3.length c0_3]] rfl (by (try simp only [List.map_toArray, List.map_cons, List.map_nil]); first | done | rfl | (simp only [List.length_drop, List.length_take]; rfl)) ?_; (with_reducible refine (strataref12_manifestMay.calls k a0_0 a0_1 a0_2 _ _ l0_3 false _ ?side1 ?side2 A2.out).mono ?_); (case side1 => repeat (first | exact (Kd.C_below HR0_3.out HB.out) | (with_reducible refine Kd.C_alloc ?_ _) | (with_reducible refine Kd.C_drewN ?_ _) | (with_reducible refine Kd.C_drew ?_))); (case side2 => exact HC0_3.out); rintro e w79 ⟨rfl, hb⟩; refine ⟨_, rfl, ?_⟩; have n0_ := Aside0.mk (blk_below (g := gb203) (o := .cells #[.int .i64 a0_0, .int .i64 a0_1, .int .u64 a0_2, .slice A0_3 l0_3.length c0_3] 25 (0, 0)) (by (with_reducible repeat (first | refine blk_drewN ?_ _ | refine blk_drew ?_ | refine blk_alloc ?_ _)); exact BK203.out) hb); have n1_ := Aside0.mk (below_step (by repeat (first | (with_reducible first | exact HB.out | apply below_alloc | apply pw_below_drewN | apply below_drew1 | refine below_set ?_ GE203.out) | exact HB.out)) hb); clear BK203; clear HB; have BK203 := n0_; have HB := n1_; clear n0_ n1_; (try clear hb); (try clear hb2); (try clear hk); (try clear hi)))
    go_ret2
    exact ⟨by first | rfl | (simp [errW_none, errW_some] <;> rfl) | (simp [*, errW_none, errW_some] <;> rfl), by repeat (first | (with_reducible first | exact HB.out | apply below_alloc | apply pw_below_drewN | apply below_drew1 | refine below_set ?_ GE203.out) | exact HB.out)⟩
end Go.Proofs.YtejjidggnnhgjaaDoor.PImg
/- The closure of DecodeData of layer 12, by the program. -/
set_option linter.unusedVariables false
set_option linter.unusedSimpArgs false
namespace Go.Proofs.YtejjidggnnhgjaaDoor.HImCd
open Go.RowKit Go.Proofs.YtejjidggnnhgjaaDoor.PImg Go.Proofs.YtejjidggnnhgjaaDoor.HBase Go.Proofs.YtejjidggnnhgjaaDoor.HBlob Go.Proofs.YtejjidggnnhgjaaDoor.HSum Go.Proofs.YtejjidggnnhgjaaDoor.HCk Go.Proofs.YtejjidggnnhgjaaDoor.HImgW Go.Proofs.YtejjidggnnhgjaaDoor.HImgR Go.Proofs.YtejjidggnnhgjaaDoor.HImgO Go.Proofs.YtejjidggnnhgjaaDoor.HImP Go.Proofs.YtejjidggnnhgjaaDoor.HImD Go.Proofs.YtejjidggnnhgjaaDoor.HImR2 Go.Proofs.YtejjidggnnhgjaaDoorW.PrintWords Go.Proofs.YtejjidggnnhgjaaDoorW.PrintLast Go.Proofs.YtejjidggnnhgjaaDoorW.PrintMore Go.Proofs.YtejjidggnnhgjaaDoor.HCore
def cells (r : Int × Int × Int × List SD) (u : Value) : Array Value := #[.int .i64 r.1, .int .u64 r.2.1, .int .u64 r.2.2.1, u, .int .i64 0, .slice none 0 0]
/-- What the closure leaves. -/
def Left (w : World) (pb rb : Nat) (s : ByteArray) (D : Option ((Int × Int × Int × List SD) × Int)) (e : Ending) (w' : World) : Prop :=
  Two pb rb w w' ∧ match D with
  | some rq => e = .returned (.tuple #[]) ∧ w'.heap[rb]? = some (Rd s rq.2) ∧ ∃ u, w'.heap[pb]? = some (.cells (cells rq.1 u) 46 (0, 0)) ∧ Kd.R k58 58 w' w.heap.size (fun _ => True) u rq.1.2.2.2
  | none => e = gives
theorem Left.gone {w w' : World} {pb rb : Nat} {s : ByteArray} {D : Option ((Int × Int × Int × List SD) × Int)} (h : Two pb rb w w') (hD : D = none) : Left w pb rb s D gives w' := by subst hD; exact ⟨h, rfl⟩
theorem Left.read {w w' : World} {pb rb : Nat} {s : ByteArray} {D : Option ((Int × Int × Int × List SD) × Int)} {r : Int × Int × Int × List SD} {q : Int} {u : Value} (h : Two pb rb w w') (hD : D = some (r, q)) (h1 : w'.heap[rb]? = some (Rd s q)) (h2 : w'.heap[pb]? = some (.cells (cells r u) 46 (0, 0))) (h3 : Kd.R k58 58 w' w.heap.size (fun _ => True) u r.2.2.2) : Left w pb rb s D (.returned (.tuple #[])) w' := by subst hD; exact ⟨h, rfl, h1, u, h2, h3⟩
end Go.Proofs.YtejjidggnnhgjaaDoor.HImCd
/- The closure of DecodeDelta of layer 12, by the program. -/
set_option linter.unusedVariables false
set_option linter.unusedSimpArgs false
namespace Go.Proofs.YtejjidggnnhgjaaDoor.HImCe
open Go.RowKit Go.Proofs.YtejjidggnnhgjaaDoor.PImg Go.Proofs.YtejjidggnnhgjaaDoor.HBase Go.Proofs.YtejjidggnnhgjaaDoor.HBlob Go.Proofs.YtejjidggnnhgjaaDoor.HSum Go.Proofs.YtejjidggnnhgjaaDoor.HCk Go.Proofs.YtejjidggnnhgjaaDoor.HImgW Go.Proofs.YtejjidggnnhgjaaDoor.HImgR Go.Proofs.YtejjidggnnhgjaaDoor.HImgO Go.Proofs.YtejjidggnnhgjaaDoor.HImP Go.Proofs.YtejjidggnnhgjaaDoor.HImD Go.Proofs.YtejjidggnnhgjaaDoor.HImR2 Go.Proofs.YtejjidggnnhgjaaDoorW.PrintWords Go.Proofs.YtejjidggnnhgjaaDoorW.PrintLast Go.Proofs.YtejjidggnnhgjaaDoorW.PrintMore Go.Proofs.YtejjidggnnhgjaaDoor.HCore
def cells (r : Int × Int × List SE) (u : Value) : Array Value := #[.int .i64 r.1, .int .u64 0, .int .u64 0, .slice none 0 0, .int .i64 r.2.1, u]
/-- What the closure leaves. -/
def Left (w : World) (pb rb : Nat) (s : ByteArray) (D : Option ((Int × Int × List SE) × Int)) (e : Ending) (w' : World) : Prop :=
  Two pb rb w w' ∧ match D with
  | some rq => e = .returned (.tuple #[]) ∧ w'.heap[rb]? = some (Rd s rq.2) ∧ ∃ u, w'.heap[pb]? = some (.cells (cells rq.1 u) 46 (0, 0)) ∧ Kd.R k60 60 w' w.heap.size (fun _ => True) u rq.1.2.2
  | none => e = gives
theorem Left.gone {w w' : World} {pb rb : Nat} {s : ByteArray} {D : Option ((Int × Int × List SE) × Int)} (h : Two pb rb w w') (hD : D = none) : Left w pb rb s D gives w' := by subst hD; exact ⟨h, rfl⟩
theorem Left.read {w w' : World} {pb rb : Nat} {s : ByteArray} {D : Option ((Int × Int × List SE) × Int)} {r : Int × Int × List SE} {q : Int} {u : Value} (h : Two pb rb w w') (hD : D = some (r, q)) (h1 : w'.heap[rb]? = some (Rd s q)) (h2 : w'.heap[pb]? = some (.cells (cells r u) 46 (0, 0))) (h3 : Kd.R k60 60 w' w.heap.size (fun _ => True) u r.2.2) : Left w pb rb s D (.returned (.tuple #[])) w' := by subst hD; exact ⟨h, rfl, h1, u, h2, h3⟩
end Go.Proofs.YtejjidggnnhgjaaDoor.HImCe
/- goodManifest of layer 12, by the program: it keeps the numbers of the pairs in a map of its own. -/
set_option linter.unusedVariables false
set_option linter.unusedSimpArgs false
namespace Go.Proofs.YtejjidggnnhgjaaDoor.HImGm
open Go.RowKit Go.Maps Go.Proofs.YtejjidggnnhgjaaDoor.PImg Go.Proofs.YtejjidggnnhgjaaDoor.HImP Go.Proofs.YtejjidggnnhgjaaDoor.HImD Go.Proofs.YtejjidggnnhgjaaDoor.HImE Go.Proofs.YtejjidggnnhgjaaDoorW.PrintWords Go.Proofs.YtejjidggnnhgjaaDoorW.PrintLast Go.Proofs.YtejjidggnnhgjaaDoorW.PrintMore Go.Proofs.YtejjidggnnhgjaaDoor.HCore
theorem oksN_append (g n u : Int) (b : List SN) : ∀ (a : List SN) (st : Int), oksN g n u st (a ++ b) = (oksN g n u st a && oksN g n u (lst nxN st a) b)
  | [], _ => by simp [oksN, lst]
  | x :: a, st => by
    show (cN g n u st x && oksN g n u (nxN x) (a ++ b)) = ((cN g n u st x && oksN g n u (nxN x) a) && oksN g n u (lst nxN (nxN x) a) b)
    rw [oksN_append g n u b a (nxN x), Bool.and_assoc]
/-- At the k-th name. -/
theorem oksN_step {g n u : Int} {ps : List SN} {k : Nat} (hk : k < ps.length) (h : oksN g n u 0 (ps.take k) = true) :
    (cN g n u (lst nxN 0 (ps.take k)) ps[k] = true → oksN g n u 0 (ps.take (k + 1)) = true) ∧ (cN g n u (lst nxN 0 (ps.take k)) ps[k] = false → oksN g n u 0 ps = false) := by
  have e : ps.take (k + 1) = ps.take k ++ [ps[k]] := List.take_succ_eq_append_getElem hk
  constructor
  · intro hc
    rw [e, oksN_append, h]
    simp [oksN, hc]
  · intro hc
    have e2 : ps = ps.take k ++ ps[k] :: ps.drop (k + 1) := by
      conv => lhs; rw [← List.take_append_drop (k + 1) ps, e]
      simp
    rw [e2, oksN_append, h]
    simp [oksN, hc]
def keyN (x : SN) : Lit := .int .i64 x.f0
theorem keys_nodup : ∀ (xs : List SN) (acc : List Lit), ((xs.map keyN).foldl addKey acc).length ≤ acc.length + xs.length ∧ (((xs.map keyN).foldl addKey acc).length = acc.length + xs.length ↔ (xs.map (fun p => p.f0)).Nodup ∧ ∀ x ∈ xs, acc.any (fun y => y.sameKey (keyN x)) = false)
  | [], acc => by simp
  | x :: xs, acc => by
    obtain ⟨h1, h2⟩ := keys_nodup xs (addKey acc (keyN x))
    have hs : ∀ y : SN, (keyN x).sameKey (keyN y) = decide (x.f0 = y.f0) := fun y => by unfold keyN Lit.sameKey; simp
    simp only [List.map_cons, List.foldl_cons, List.length_cons, List.nodup_cons, List.mem_map, List.mem_cons, forall_eq_or_imp]
    by_cases hx : acc.any (fun y => y.sameKey (keyN x)) = true
    · have e : addKey acc (keyN x) = acc := by unfold addKey; rw [if_pos hx]
      rw [e] at h1 h2 ⊢
      refine ⟨by omega, ⟨fun h => by omega, fun h => ?_⟩⟩
      rw [hx] at h
      exact absurd h.2.1 (by simp)
    · have e : addKey acc (keyN x) = acc ++ [keyN x] := by unfold addKey; rw [if_neg hx]
      rw [e] at h1 h2 ⊢
      rw [List.length_append, List.length_singleton] at h1 h2
      refine ⟨by omega, ?_⟩
      have hx2 : acc.any (fun y => y.sameKey (keyN x)) = false := by simpa using hx
      constructor
      · intro h
        obtain ⟨g1, g2⟩ := h2.1 (by omega)
        refine ⟨⟨fun hm => ?_, g1⟩, hx2, fun y hy => ?_⟩
        · obtain ⟨y, hy, he⟩ := hm
          have := g2 y hy
          rw [List.any_append] at this
          simp [hs, he] at this
        · have := g2 y hy
          rw [List.any_append] at this
          simp only [Bool.or_eq_false_iff] at this
          exact this.1
      · intro h
        have := h2.2 ⟨h.1.2, fun y hy => by
          rw [List.any_append, h.2.2 y hy]
          simp only [List.any_cons, List.any_nil, Bool.or_false, Bool.false_or, hs]
          exact decide_eq_false (fun he => h.1.1 ⟨y, hy, he.symm⟩)⟩
        omega
theorem set_size (xs : List SN) : (Maps.size (setOf (H := Unit) (.agg []) (xs.map keyN)) = xs.length ↔ (xs.map (fun p => p.f0)).Nodup) := by
  rw [size_setOf _ _ (fun x hx => by obtain ⟨y, _, rfl⟩ := List.mem_map.1 hx; trivial)]
  have h := (keys_nodup xs []).2
  simp only [List.length_nil, Nat.zero_add, List.any_nil, implies_true, and_true] at h
  exact h
/-- Which test fails first. -/
theorem head_no {gen next upto : Int} {n : Nat} (h : ¬ (1 ≤ gen ∧ gen ≤ 99999999 ∧ 1 ≤ next ∧ next ≤ 100000000 ∧ upto ≤ 4611686018427387903 ∧ n ≤ 256)) :
    gen < 1 ∨ (1 ≤ gen ∧ gen > 99999999) ∨ (1 ≤ gen ∧ gen ≤ 99999999 ∧ next < 1) ∨ (1 ≤ gen ∧ gen ≤ 99999999 ∧ 1 ≤ next ∧ next > 100000000) ∨ (1 ≤ gen ∧ gen ≤ 99999999 ∧ 1 ≤ next ∧ next ≤ 100000000 ∧ upto > 4611686018427387903) ∨ (1 ≤ gen ∧ gen ≤ 99999999 ∧ 1 ≤ next ∧ next ≤ 100000000 ∧ upto ≤ 4611686018427387903 ∧ 256 < n) := by omega
set_option maxRecDepth 100000 in
set_option maxHeartbeats 4000000 in
theorem good_no (gen next upto : Int) (A : Option Addr) (c : Nat) (ps : List SN) (w : World) (hn : ps.length ≤ 9223372036854775807) (h : ¬ (1 ≤ gen ∧ gen ≤ 99999999 ∧ 1 ≤ next ∧ next ≤ 100000000 ∧ upto ≤ 4611686018427387903 ∧ ps.length ≤ 256)) :
    Calls Tryd.prog 28 #[.agg #[.int .i64 gen, .int .i64 next, .int .u64 upto, .slice A ps.length c]] w fun e w' => e = .returned (.bool false) ∧ Below w.heap.size w w' := by
  have hd := head_no h
  clear h
  rcases hd with h | ⟨h1, h⟩ | ⟨h1, h2, h⟩ | ⟨h1, h2, h3, h⟩ | ⟨h1, h2, h3, h4, h⟩ | ⟨h1, h2, h3, h4, h5, h⟩
  all_goals
    go_enter Tryd.func28, Tryd.ntmps28
    go_wp2
    go_ret
    exact ⟨rfl, below_alloc (Below.refl _ _) _⟩
/-- Which test of a name fails first. -/
inductive Bad (gen next upto last : Int) (n : SN) : Prop
  | a1 (h : n.f0 < 1) : Bad gen next upto last n
  | a2 (h1 : 1 ≤ n.f0) (h : next ≤ n.f0) : Bad gen next upto last n
  | a3 (h1 : 1 ≤ n.f0) (h2 : n.f0 < next) (h : n.f1 < last) : Bad gen next upto last n
  | a4 (h1 : 1 ≤ n.f0) (h2 : n.f0 < next) (h3 : last ≤ n.f1) (h : n.f2 ≤ n.f1) : Bad gen next upto last n
  | a5 (h1 : 1 ≤ n.f0) (h2 : n.f0 < next) (h3 : last ≤ n.f1) (h4 : n.f1 < n.f2) (h : upto < n.f2) : Bad gen next upto last n
  | b1 (h1 : 1 ≤ n.f0) (h2 : n.f0 < next) (h3 : last ≤ n.f1) (h4 : n.f1 < n.f2) (h5 : n.f2 ≤ upto) (h : n.f3 < 0) : Bad gen next upto last n
  | b2 (h1 : 1 ≤ n.f0) (h2 : n.f0 < next) (h3 : last ≤ n.f1) (h4 : n.f1 < n.f2) (h5 : n.f2 ≤ upto) (h6 : 0 ≤ n.f3) (h : 65536 < n.f3) : Bad gen next upto last n
  | b3 (h1 : 1 ≤ n.f0) (h2 : n.f0 < next) (h3 : last ≤ n.f1) (h4 : n.f1 < n.f2) (h5 : n.f2 ≤ upto) (h6 : 0 ≤ n.f3) (h7 : n.f3 ≤ 65536) (h : n.f4 < 0) : Bad gen next upto last n
  | b4 (h1 : 1 ≤ n.f0) (h2 : n.f0 < next) (h3 : last ≤ n.f1) (h4 : n.f1 < n.f2) (h5 : n.f2 ≤ upto) (h6 : 0 ≤ n.f3) (h7 : n.f3 ≤ 65536) (h8 : 0 ≤ n.f4) (h : gen < n.f4) : Bad gen next upto last n
  | b5 (h1 : 1 ≤ n.f0) (h2 : n.f0 < next) (h3 : last ≤ n.f1) (h4 : n.f1 < n.f2) (h5 : n.f2 ≤ upto) (h6 : 0 ≤ n.f3) (h7 : n.f3 ≤ 65536) (h8 : 0 ≤ n.f4) (h9 : n.f4 ≤ gen) (h : n.f5 < 0) : Bad gen next upto last n
  | b6 (h1 : 1 ≤ n.f0) (h2 : n.f0 < next) (h3 : last ≤ n.f1) (h4 : n.f1 < n.f2) (h5 : n.f2 ≤ upto) (h6 : 0 ≤ n.f3) (h7 : n.f3 ≤ 65536) (h8 : 0 ≤ n.f4) (h9 : n.f4 ≤ gen) (h10 : 0 ≤ n.f5) (h : n.f3 < n.f5) : Bad gen next upto last n
  | c1 (h1 : 1 ≤ n.f0) (h2 : n.f0 < next) (h3 : last ≤ n.f1) (h4 : n.f1 < n.f2) (h5 : n.f2 ≤ upto) (h6 : 0 ≤ n.f3) (h7 : n.f3 ≤ 65536) (h8 : 0 ≤ n.f4) (h9 : n.f4 ≤ gen) (h10 : 0 ≤ n.f5) (h11 : n.f5 ≤ n.f3) (e1 : (n.f4 == 0) = true) (e2 : (n.f5 == 0) = false) : Bad gen next upto last n
  | c2 (h1 : 1 ≤ n.f0) (h2 : n.f0 < next) (h3 : last ≤ n.f1) (h4 : n.f1 < n.f2) (h5 : n.f2 ≤ upto) (h6 : 0 ≤ n.f3) (h7 : n.f3 ≤ 65536) (h8 : 0 ≤ n.f4) (h9 : n.f4 ≤ gen) (h10 : 0 ≤ n.f5) (h11 : n.f5 ≤ n.f3) (e1 : (n.f4 == 0) = false) (e2 : (n.f5 == 0) = true) : Bad gen next upto last n
  | c3 (h1 : 1 ≤ n.f0) (h2 : n.f0 < next) (h3 : last ≤ n.f1) (h4 : n.f1 < n.f2) (h5 : n.f2 ≤ upto) (h6 : 0 ≤ n.f3) (h7 : n.f3 ≤ 65536) (h8 : 0 ≤ n.f4) (h9 : n.f4 ≤ gen) (h10 : 0 ≤ n.f5) (h11 : n.f5 ≤ n.f3) (e1 : (n.f4 == 0) = true) (e2 : (n.f5 == 0) = true) (e3 : (n.f7 == 0) = false) : Bad gen next upto last n
theorem bad_of {gen next upto last : Int} {n : SN} (h : cN gen next upto last n = false) : Bad gen next upto last n := by
  unfold cN at h
  rw [decide_eq_false_iff_not] at h
  by_cases h1 : 1 ≤ n.f0
  case neg => exact .a1 (by omega)
  by_cases h2 : n.f0 < next
  case neg => exact .a2 h1 (by omega)
  by_cases h3 : last ≤ n.f1
  case neg => exact .a3 h1 h2 (by omega)
  by_cases h4 : n.f1 < n.f2
  case neg => exact .a4 h1 h2 h3 (by omega)
  by_cases h5 : n.f2 ≤ upto
  case neg => exact .a5 h1 h2 h3 h4 (by omega)
  by_cases h6 : 0 ≤ n.f3
  case neg => exact .b1 h1 h2 h3 h4 h5 (by omega)
  by_cases h7 : n.f3 ≤ 65536
  case neg => exact .b2 h1 h2 h3 h4 h5 h6 (by omega)
  by_cases h8 : 0 ≤ n.f4
  case neg => exact .b3 h1 h2 h3 h4 h5 h6 h7 (by omega)
  by_cases h9 : n.f4 ≤ gen
  case neg => exact .b4 h1 h2 h3 h4 h5 h6 h7 h8 (by omega)
  by_cases h10 : 0 ≤ n.f5
  case neg => exact .b5 h1 h2 h3 h4 h5 h6 h7 h8 h9 (by omega)
  by_cases h11 : n.f5 ≤ n.f3
  case neg => exact .b6 h1 h2 h3 h4 h5 h6 h7 h8 h9 h10 (by omega)
  by_cases e1 : n.f4 = 0
  · by_cases e2 : n.f5 = 0
    · by_cases e3 : n.f7 = 0
      · exact absurd ⟨h1, h2, h3, h4, h5, h6, h7, h8, h9, h10, h11, by omega, fun _ => e3⟩ h
      · exact .c3 h1 h2 h3 h4 h5 h6 h7 h8 h9 h10 h11 (beq_iff_eq.2 e1) (beq_iff_eq.2 e2) (beq_eq_false_iff_ne.2 e3)
    · exact .c1 h1 h2 h3 h4 h5 h6 h7 h8 h9 h10 h11 (beq_iff_eq.2 e1) (beq_eq_false_iff_ne.2 e2)
  · by_cases e2 : n.f5 = 0
    · exact .c2 h1 h2 h3 h4 h5 h6 h7 h8 h9 h10 h11 (beq_eq_false_iff_ne.2 e1) (beq_iff_eq.2 e2)
    · exact absurd ⟨h1, h2, h3, h4, h5, h6, h7, h8, h9, h10, h11, by omega, fun h => absurd h e1⟩ h
/-- What stands while the names are looked at. -/
structure St (w wr : World) (cs : Array Value) (ps : List SN) (k : Nat) : Prop where
  below : Below w.heap.size w wr
  box : wr.heap[w.heap.size]? = some (.cells cs 25 (0, 0))
  own : wr.ownsMap Tryd.prog 3 (unitElem (H := Unit)) (w.heap.size + 1) k (setOf (.agg []) ((ps.take k).map keyN))
theorem St.step {w wr w1 : World} {cs : Array Value} {ps : List SN} {k : Nat} (h : St w wr cs ps k) (hk : k < ps.length) (o : Obj) (hown : w1.ownsMap Tryd.prog 3 (unitElem (H := Unit)) (w.heap.size + 1) (k + 1) ((setOf (.agg []) ((ps.take k).map keyN)).put (keyN ps[k]) (.agg []))) (hg : (wr.alloc o).grownBy w1 (some (w.heap.size + 1))) : St w w1 cs ps (k + 1) := by
  have hb := below_alloc h.below o
  have h0 := (heap_alloc_old wr o (blk_lt h.box)).trans h.box
  refine ⟨hb.grown hg hb.size (fun j hj => by cases hj; omega), ?_, ?_⟩
  · exact (hg.block _ (blk_lt h0) (fun e => by injection e; omega)).trans h0
  · rw [List.take_succ_eq_append_getElem hk, List.map_append, List.map_cons, List.map_nil, setOf_snoc]
    exact hown
set_option maxRecDepth 100000 in
set_option maxHeartbeats 16000000 in
theorem good_in (gen next upto : Int) (A : Option Addr) (c : Nat) (ps : List SN) (w : World) (hC : Kd.C k36 w A ps.length ps) (hc : ps.length ≤ c) (hr : ∀ x ∈ ps, (Lit.int .i64 x.f0).wf = true) (h : (1 ≤ gen ∧ gen ≤ 99999999 ∧ 1 ≤ next ∧ next ≤ 100000000 ∧ upto ≤ 4611686018427387903 ∧ ps.length ≤ 256)) :
    Calls Tryd.prog 28 #[.agg #[.int .i64 gen, .int .i64 next, .int .u64 upto, .slice A ps.length c]] w fun e w' => e = .returned (.bool (oksN gen next upto 0 ps && decide (ps.map (fun p => p.f0)).Nodup)) ∧ Below w.heap.size w w' := by
  obtain ⟨h1, h2, h3, h4, h5, h6⟩ := h
  have hmm := @run_makeMap Tryd.prog
  have HC := Aside0.mk hC
  have HR := Aside0.mk hr
  have law : Keyed Tryd.prog 3 := int_keyed Tryd.underlying3
  have LW := Aside0.mk law
  clear hC hr law
  have HS : Aside0 (St w ((w.alloc (.cells #[.int .i64 gen, .int .i64 next, .int .u64 upto, .slice A ps.length c] 25)).alloc (.map #[] 0)) #[.int .i64 gen, .int .i64 next, .int .u64 upto, .slice A ps.length c] ps 0) := ⟨⟨below_alloc (below_alloc (Below.refl _ _) _) _, (heap_alloc_old _ _ (by simp)).trans (heap_alloc_new _ _), by
    have h := World.ownsMap_made (w.alloc (.cells #[.int .i64 gen, .int .i64 next, .int .u64 upto, .slice A ps.length c] 25)) Tryd.prog 3 (unitElem (H := Unit))
    rw [show (w.alloc (.cells #[.int .i64 gen, .int .i64 next, .int .u64 upto, .slice A ps.length c] 25)).heap.size = w.heap.size + 1 by simp] at h
    exact h⟩⟩
  go_enter Tryd.func28, Tryd.ntmps28
  go_wp2
  clear hmm
  go_loopw [4, 40] (fun v4 v40 wr => ∃ k : Nat, k ≤ ps.length ∧ v40 = .int .i64 (k : Int) ∧ v4 = .int .u64 (lst nxN 0 (ps.take k)) ∧ oksN gen next upto 0 (ps.take k) = true ∧ Aside0 (St w wr #[.int .i64 gen, .int .i64 next, .int .u64 upto, .slice A ps.length c] ps k)) (fun _ v40 _ => ps.length - (intOf v40).toNat)
  case atStart => exact ⟨0, by omega, rfl, rfl, rfl, HS⟩
  case round =>
    clear HS
    obtain ⟨k, hk, rfl, rfl, hoks, HS⟩ := hrel
    have HOK := Aside0.mk hoks
    clear hoks
    by_cases hlt : k < ps.length
    · have HCr := Kd.C_below HC.out HS.out.below
      obtain ⟨ad, eA, y0, y1, y2, y3, y4, y5, y6, y7⟩ := at_T36 HCr (k : Int) (by omega) (by omega)
      subst eA
      simp only [Int.toNat_natCast] at y0 y1 y2 y3 y4 y5 y6 y7
      have hget : rd_T36 ps (k : Int) = ps[k] := by unfold rd_T36; rw [Int.toNat_natCast, List.getD_eq_getElem?_getD, List.getElem?_eq_getElem hlt, Option.getD_some]
      rw [hget] at y0 y1 y2 y3 y4 y5 y6 y7
      obtain ⟨hyes, hno⟩ := oksN_step hlt HOK.out
      have hnx : lst nxN 0 (ps.take (k + 1)) = nxN ps[k] := by rw [List.take_succ_eq_append_getElem hlt, lst_snoc]
      have hkey := Aside0.mk (keyOf_int_mk Tryd.underlying3 (HR.out _ (List.getElem_mem hlt)))
      have HST : Aside0 (∀ (w1 : World) (o : Obj), w1.ownsMap Tryd.prog 3 (unitElem (H := Unit)) (w.heap.size + 1) (k + 1) ((setOf (.agg []) ((ps.take k).map keyN)).put (keyN ps[k]) (.agg [])) → (wr.alloc o).grownBy w1 (some (w.heap.size + 1)) → St w w1 _ ps (k + 1)) := ⟨fun w1 o a b => HS.out.step hlt o a b⟩
      have HM : Aside0 ((wr.alloc (.cells #[.int .i64 ps[k].f0, .int .u64 ps[k].f1, .int .u64 ps[k].f2, .int .i64 ps[k].f3, .int .i64 ps[k].f4, .int .i64 ps[k].f5, .int .u32 ps[k].f6, .int .u32 ps[k].f7] 36)).ownsMap Tryd.prog 3 (unitElem (H := Unit)) (w.heap.size + 1) k (setOf (.agg []) ((ps.take k).map keyN))) := ⟨HS.out.own.alloc _⟩
      have HLT := Aside0.mk HS.out.own.lt
      generalize hx : ps[k] = x at y0 y1 y2 y3 y4 y5 y6 y7 hyes hno hnx hkey HST HM
      have HX := Aside0.mk hx
      have HYES := Aside0.mk hyes
      have HNO := Aside0.mk hno
      have HNX := Aside0.mk hnx
      clear hget HCr hyes hno hx hnx
      generalize lst nxN 0 (ps.take k) = st at HYES HNO ⊢
      go_upto_region 9 with (first | (at_mapUpdate; refine wpList_mapUpdate_own _ rfl _ _ _ 101 rfl 3 102 LW.out Tryd.underlying101 (unitElem (H := Unit)) (w.heap.size + 1) k _ rfl HM.out (by unfold maxLen; omega) _ _ _ rfl rfl hkey.out _ [] unitElem_mk ?_; intro w1 hown1 hgrow1))
      have HS1 := Aside0.mk (HST.out w1 _ hown1 hgrow1)
      have hpx : w1.heap[wr.heap.size]? = some (.cells #[.int .i64 x.f0, .int .u64 x.f1, .int .u64 x.f2, .int .i64 x.f3, .int .i64 x.f4, .int .i64 x.f5, .int .u32 x.f6, .int .u32 x.f7] 36 (0, 0)) :=
        (hgrow1.block _ (by simp) (fun e => by injection e with e; have := HLT.out; omega)).trans (heap_alloc_new _ _)
      clear hown1 hgrow1 HST HM hkey y0 y1 y2 y3 y4 y5 y6 y7 HS
      obtain ⟨x0, x1, x2⟩ : w1.cell? ⟨w.heap.size, 0, none⟩ = some (.int .i64 gen) ∧ w1.cell? ⟨w.heap.size, 1, none⟩ = some (.int .i64 next) ∧ w1.cell? ⟨w.heap.size, 2, none⟩ = some (.int .u64 upto) := ⟨(blk_cell HS1.out.box 0).trans rfl, (blk_cell HS1.out.box 1).trans rfl, (blk_cell HS1.out.box 2).trans rfl⟩
      obtain ⟨y0, y1, y2, y3, y4, y5, y7⟩ : w1.cell? ⟨wr.heap.size, 0, none⟩ = some (.int .i64 x.f0) ∧ w1.cell? ⟨wr.heap.size, 1, none⟩ = some (.int .u64 x.f1) ∧ w1.cell? ⟨wr.heap.size, 2, none⟩ = some (.int .u64 x.f2) ∧ w1.cell? ⟨wr.heap.size, 3, none⟩ = some (.int .i64 x.f3) ∧ w1.cell? ⟨wr.heap.size, 4, none⟩ = some (.int .i64 x.f4) ∧ w1.cell? ⟨wr.heap.size, 5, none⟩ = some (.int .i64 x.f5) ∧ w1.cell? ⟨wr.heap.size, 7, none⟩ = some (.int .u32 x.f7) :=
        ⟨(blk_cell hpx 0).trans rfl, (blk_cell hpx 1).trans rfl, (blk_cell hpx 2).trans rfl, (blk_cell hpx 3).trans rfl, (blk_cell hpx 4).trans rfl, (blk_cell hpx 5).trans rfl, (blk_cell hpx 7).trans rfl⟩
      clear hpx
      cases hcn : cN gen next upto st x
      · have hbad := bad_of hcn
        have HF := Aside0.mk (HNO.out hcn)
        clear hcn
        cases hbad
        all_goals (
          go_wp2
          go_ret
          exact ⟨by rw [HF.out]; rfl, HS1.out.below⟩)
      · have HF := Aside0.mk (HYES.out hcn)
        unfold cN at hcn
        rw [decide_eq_true_eq] at hcn
        obtain ⟨c1, c2, c3, c4, c5, c6, c7, c8, c9, c10, c11, c12, c13⟩ := hcn
        by_cases e0 : x.f4 = 0
        · have e1 : (x.f4 == 0) = true := beq_iff_eq.2 e0
          have e2 : (x.f5 == 0) = true := beq_iff_eq.2 (c12.1 e0)
          have e3 : (x.f7 == 0) = true := beq_iff_eq.2 (c13 e0)
          clear c12 c13 e0
          go_wp2
          go_roundw
          case rel => exact ⟨k + 1, by omega, by go_num, by rw [HNX.out]; rfl, HF.out, HS1⟩
          case measure => simp [intOf]; omega
        · have e1 : (x.f4 == 0) = false := beq_eq_false_iff_ne.2 e0
          have e2 : (x.f5 == 0) = false := beq_eq_false_iff_ne.2 (fun h => e0 (c12.2 h))
          clear c12 c13 e0
          go_wp2
          go_roundw
          case rel => exact ⟨k + 1, by omega, by go_num, by rw [HNX.out]; rfl, HF.out, HS1⟩
          case measure => simp [intOf]; omega
    · obtain rfl : k = ps.length := by omega
      have hok := HOK.out
      rw [List.take_length] at hok ⊢
      have ho := HS.out.own
      rw [List.take_length] at ho
      have hsz := set_size ps
      have HM := Aside0.mk ho
      have HOK := Aside0.mk hok
      obtain ⟨x0, x3⟩ : wr.cell? ⟨w.heap.size, 0, none⟩ = some (.int .i64 gen) ∧ wr.cell? ⟨w.heap.size, 3, none⟩ = some (.slice A ps.length c) := ⟨(blk_cell HS.out.box 0).trans rfl, (blk_cell HS.out.box 3).trans rfl⟩
      clear hok ho
      obtain ⟨sz, hs0⟩ : ∃ sz, Maps.size (setOf (H := Unit) (.agg []) (ps.map keyN)) = sz := ⟨_, rfl⟩
      rw [hs0] at hsz
      have HZ := Aside0.mk hs0
      have HN : Aside0 (((sz : Int) == (ps.length : Int)) = decide (ps.map (fun p => p.f0)).Nodup) := ⟨by
        rw [Bool.eq_iff_iff, beq_iff_eq, decide_eq_true_eq]
        exact ⟨fun h => hsz.1 (by omega), fun h => by have := hsz.2 h; omega⟩⟩
      clear hs0 hsz
      go_wp2_with (first | (at_len; refine wpList_len_own _ rfl _ 101 rfl 3 102 Tryd.underlying101 (unitElem (H := Unit)) (w.heap.size + 1) ps.length _ rfl HM.out ?_; rw [HZ.out]))
      go_ret
      exact ⟨by rw [HOK.out, ← HN.out]; rfl, HS.out.below⟩
theorem good_any (gen next upto : Int) (A : Option Addr) (c : Nat) (ps : List SN) (w : World) (hC : Kd.C k36 w A ps.length ps) (hc : ps.length ≤ c) (hn : ps.length ≤ 9223372036854775807) (hr : ∀ x ∈ ps, (Lit.int .i64 x.f0).wf = true) :
    Calls Tryd.prog 28 #[.agg #[.int .i64 gen, .int .i64 next, .int .u64 upto, .slice A ps.length c]] w fun e w' => e = .returned (.bool (gdN gen next upto ps)) ∧ Below w.heap.size w w' := by
  by_cases h : (1 ≤ gen ∧ gen ≤ 99999999 ∧ 1 ≤ next ∧ next ≤ 100000000 ∧ upto ≤ 4611686018427387903 ∧ ps.length ≤ 256)
  · have e : gdN gen next upto ps = (oksN gen next upto 0 ps && decide (ps.map (fun p => p.f0)).Nodup) := by unfold gdN; rw [decide_eq_true h, Bool.true_and]
    rw [e]
    exact good_in gen next upto A c ps w hC hc hr h
  · have e : gdN gen next upto ps = false := by unfold gdN; rw [decide_eq_false h, Bool.false_and]
    rw [e]
    exact good_no gen next upto A c ps w hn h
end Go.Proofs.YtejjidggnnhgjaaDoor.HImGm
