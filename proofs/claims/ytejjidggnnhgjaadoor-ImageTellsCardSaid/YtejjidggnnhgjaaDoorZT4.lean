/- Texts of this seat laid together, what the statement needs of them: PImgx10, HImCe, HImDe, HImGm, HImCm, HImDm, HImS, HImL, HImBk, HImMk, HImK, HImKe, HImEr. -/
import Derived.Test.YtejjidggnnhgjaaDoorZT3
import Derived.Maps.OwnSet
import Derived.ChangeAlike
namespace Go.Proofs.YtejjidggnnhgjaaDoor.PImg
open Go.RowKit Go.Proofs.YtejjidggnnhgjaaDoor.HBase Go.Proofs.YtejjidggnnhgjaaDoor.HBlob Go.Proofs.YtejjidggnnhgjaaDoor.HSum Go.Proofs.YtejjidggnnhgjaaDoor.HUv Go.Proofs.YtejjidggnnhgjaaDoorW.PrintWords Go.Proofs.YtejjidggnnhgjaaDoorW.PrintLast Go.Proofs.YtejjidggnnhgjaaDoorW.PrintMore
attribute [local go_sem] max2_int min2_int max_two min_two max_three min_three max_four min_four   -- for this text's walks alone
set_option linter.unusedVariables false
set_option linter.unusedSimpArgs false
/-! ### image_goodDelta: function 47 -/
mutual
def image_goodDelta.j0 : Nat → Bool → Int → Int → Int → List (S58) → Int → List (S60) → Option (Bool)
  | 0, _, _, _, _, _, _, _ => none
  | k + 1, x36, x259000, x259001, x259002, x259003, x259004, x259005 => if x36 = true then (some false) else (image_goodDelta.l0 k x259005 (x259005.length : Int) 0 0 (⟨#[]⟩ : ByteArray))
def image_goodDelta.l0 : Nat → List (S60) → Int → Int → Int → ByteArray → Option (Bool)
  | 0, _, _, _, _, _ => none
  | k + 1, x38, x39, x40, x260000, x260001 => if x40 < x39 then (if 0 ≤ x40 then (if x40 < (x38.length : Int) then (if ((rd_T60 x38 x40).f0) < 1 then (some false) else (if ((rd_T60 x38 x40).f1) ≤ ((rd_T60 x38 x40).f0) then (some false) else (if ((rd_T60 x38 x40).f1) > 4611686018427387903 then (some false) else ((image_goodKey.f ((rd_T60 x38 x40).f2)).bind fun t263 => (if t263 = true then ((image_place_before.f x260000 x260001 ((rd_T60 x38 x40).f0) ((rd_T60 x38 x40).f2)).bind fun t264 => (if t264 = true then (image_goodDelta.l0 k x38 x39 (wrap64 (x40 + 1)) ((rd_T60 x38 x40).f0) ((rd_T60 x38 x40).f2)) else (some false))) else (some false)))))) else (none)) else (none)) else (some true)
end
def image_goodDelta.f (k : Nat) (a0_0 : Int) (a0_1 : Int) (a0_2 : Int) (l0_3 : List (S58)) (a0_4 : Int) (l0_5 : List (S60)) : Option (Bool) := if a0_0 < 1 then (image_goodDelta.j0 k true a0_0 a0_1 a0_2 l0_3 a0_4 l0_5) else (if a0_0 > 99999999 then (image_goodDelta.j0 k true a0_0 a0_1 a0_2 l0_3 a0_4 l0_5) else (if a0_4 < 1 then (image_goodDelta.j0 k true a0_0 a0_1 a0_2 l0_3 a0_4 l0_5) else (if a0_4 > 99999999 then (image_goodDelta.j0 k true a0_0 a0_1 a0_2 l0_3 a0_4 l0_5) else (if (l0_5.length : Int) < 1 then (image_goodDelta.j0 k true a0_0 a0_1 a0_2 l0_3 a0_4 l0_5) else (image_goodDelta.j0 k (decide ((l0_5.length : Int) > 65536)) a0_0 a0_1 a0_2 l0_3 a0_4 l0_5)))))
set_option maxHeartbeats 8000000 in
set_option maxRecDepth 100000 in
theorem image_goodDelta.calls (k : Nat) (a0_0 : Int) (a0_1 : Int) (a0_2 : Int) (A0_3 : Option Addr) (c0_3 : Nat) (l0_3 : List (S58)) (a0_4 : Int) (A0_5 : Option Addr) (c0_5 : Nat) (l0_5 : List (S60)) (r : Bool) (w : World) (hr0_3 : Kd.C k58 w A0_3 l0_3.length l0_3) (hc0_3 : l0_3.length ≤ c0_3) (hr0_5 : Kd.C k60 w A0_5 l0_5.length l0_5) (hc0_5 : l0_5.length ≤ c0_5) (h : image_goodDelta.f k a0_0 a0_1 a0_2 l0_3 a0_4 l0_5 = some r) :
    Calls Tryd.prog 47 #[.agg #[.int .i64 a0_0, .int .u64 a0_1, .int .u64 a0_2, .slice A0_3 l0_3.length c0_3, .int .i64 a0_4, .slice A0_5 l0_5.length c0_5]] w fun e w' => e = .returned (.bool r) ∧ Below w.heap.size w w' := by
  have hu46 := Tryd.underlying46
  have hu121 := Tryd.underlying121
  have hu60 := Tryd.underlying60
  have HR0_3 := Aside0.mk hr0_3
  have HC0_3 := Aside0.mk hc0_3
  clear hr0_3 hc0_3
  have HR0_5 := Aside0.mk hr0_5
  have HC0_5 := Aside0.mk hc0_5
  clear hr0_5 hc0_5
  have HB := Aside0.mk (Below.refl w.heap.size w)
  have H : (if a0_0 < 1 then (image_goodDelta.j0 k true a0_0 a0_1 a0_2 l0_3 a0_4 l0_5) else (if a0_0 > 99999999 then (image_goodDelta.j0 k true a0_0 a0_1 a0_2 l0_3 a0_4 l0_5) else (if a0_4 < 1 then (image_goodDelta.j0 k true a0_0 a0_1 a0_2 l0_3 a0_4 l0_5) else (if a0_4 > 99999999 then (image_goodDelta.j0 k true a0_0 a0_1 a0_2 l0_3 a0_4 l0_5) else (if (l0_5.length : Int) < 1 then (image_goodDelta.j0 k true a0_0 a0_1 a0_2 l0_3 a0_4 l0_5) else (image_goodDelta.j0 k (decide ((l0_5.length : Int) > 65536)) a0_0 a0_1 a0_2 l0_3 a0_4 l0_5)))))) = some r := h
  clear h
  have HC2 := Aside0.mk H
  clear H
  go_enter Tryd.func47, Tryd.ntmps47
  go_upto_region 1 with (first | ((with_reducible refine gate_dst (N := 1) rfl ?_); (try (refine gate_guard (by rfl) ?_; dsimp only)); refine box_event ?hg (N := 1) ?hd (cs := #[.int .i64 a0_0, .int .u64 a0_1, .int .u64 a0_2, .slice A0_3 l0_3.length c0_3, .int .i64 a0_4, .slice A0_5 l0_5.length c0_5]) (t := 46) ?hr ?_; (case hd => rfl); (case hg => rfl); (case hr => first | (go_simp; done) | (go_simp; rfl)); intro gb258 hg w3 hbox hb; have n0_ := Aside0.mk (below_step (by repeat (first | (with_reducible first | exact HB.out | apply below_alloc | apply pw_below_drewN | apply below_drew1) | exact HB.out)) hb); have n1_ := Aside0.mk (hbox); have n2_ := Aside0.mk ((by rw [hg]; exact (below_size (by repeat (first | (with_reducible first | exact HB.out | apply below_alloc | apply pw_below_drewN | apply below_drew1) | exact HB.out))) : w.heap.size ≤ gb258)); have n3_ := Aside0.mk ((by rw [hg]; exact (below_size (by repeat (first | (with_reducible first | exact HB.out | apply below_alloc | apply pw_below_drewN | apply below_drew1) | exact HB.out))) : w.heap.size ≤ gb258)); clear HB; have HB := n0_; have BK258 := n1_; have GW258 := n2_; have GE258 := n3_; clear n0_ n1_ n2_ n3_; clear hb hbox hg))
  (try simp only [Act.put, List.setIfInBounds_toArray, List.set_cons_zero, List.set_cons_succ])
  go_cut [36] (fun v36 wc => ∃ (kq : Nat) (x36_1 : Bool), v36 = .bool x36_1 ∧ Aside0 (image_goodDelta.j0 kq x36_1 a0_0 a0_1 a0_2 l0_3 a0_4 l0_5 = some r) ∧ Aside0 (kq ≤ k) ∧ Aside0 (wc.heap[gb258]? = some (.cells #[.int .i64 a0_0, .int .u64 a0_1, .int .u64 a0_2, (.slice A0_3 l0_3.length c0_3), .int .i64 a0_4, (.slice A0_5 l0_5.length c0_5)] 46 (0, 0))) ∧ Aside0 (Below w.heap.size w wc))
  case first =>
    have H := HC2.out
    clear HC2
    by_cases c4 : a0_0 < 1
    · rw [if_pos c4] at H
      have c4b0 : decide (a0_0 < 1) = true := decide_eq_true c4
      clear c4
      (first | rw [c4b0] | (simp only [i64_w, i32_w]; rw [c4b0]) | skip)
      have H' := Aside0.mk H
      clear H
      have hcz5_0 : w3.cell? ⟨gb258, 0, none⟩ = some (.int .i64 a0_0) := (blk_cell BK258.out 0).trans rfl
      have hcz5_1 : w3.cell? ⟨gb258, 1, none⟩ = some (.int .u64 a0_1) := (blk_cell BK258.out 1).trans rfl
      have hcz5_2 : w3.cell? ⟨gb258, 2, none⟩ = some (.int .u64 a0_2) := (blk_cell BK258.out 2).trans rfl
      have hcz5_3 : w3.cell? ⟨gb258, 3, none⟩ = some (.slice A0_3 l0_3.length c0_3) := (blk_cell BK258.out 3).trans rfl
      have hcz5_4 : w3.cell? ⟨gb258, 4, none⟩ = some (.int .i64 a0_4) := (blk_cell BK258.out 4).trans rfl
      have hcz5_5 : w3.cell? ⟨gb258, 5, none⟩ = some (.slice A0_5 l0_5.length c0_5) := (blk_cell BK258.out 5).trans rfl
      have hfz5_0 := blk_frozen BK258.out 0
      have hfz5_1 := blk_frozen BK258.out 1
      have hfz5_2 := blk_frozen BK258.out 2
      have hfz5_3 := blk_frozen BK258.out 3
      have hfz5_4 := blk_frozen BK258.out 4
      have hfz5_5 := blk_frozen BK258.out 5
      go_wp2
      go_meet
      case rel => exact ⟨_, (true), (by first | rfl | (simp; done) | (simp [*]; done)), H', ⟨by first | omega | exact Nat.le_refl _⟩, ⟨by (with_reducible repeat (first | refine blk_drewN ?_ _ | refine blk_drew ?_ | refine blk_alloc ?_ _)); exact BK258.out⟩, ⟨by repeat (first | (with_reducible first | exact HB.out | apply below_alloc | apply pw_below_drewN | apply below_drew1 | refine below_set ?_ GE258.out) | exact HB.out)⟩⟩
    · rw [if_neg c4] at H
      have c4b0 : decide (a0_0 < 1) = false := decide_eq_false c4
      clear c4
      (first | rw [c4b0] | (simp only [i64_w, i32_w]; rw [c4b0]) | skip)
      by_cases c6 : a0_0 > 99999999
      · rw [if_pos c6] at H
        have c6b0 : decide (99999999 < a0_0) = true := decide_eq_true c6
        clear c6
        have H' := Aside0.mk H
        clear H
        have hcz7_0 : w3.cell? ⟨gb258, 0, none⟩ = some (.int .i64 a0_0) := (blk_cell BK258.out 0).trans rfl
        have hcz7_1 : w3.cell? ⟨gb258, 1, none⟩ = some (.int .u64 a0_1) := (blk_cell BK258.out 1).trans rfl
        have hcz7_2 : w3.cell? ⟨gb258, 2, none⟩ = some (.int .u64 a0_2) := (blk_cell BK258.out 2).trans rfl
        have hcz7_3 : w3.cell? ⟨gb258, 3, none⟩ = some (.slice A0_3 l0_3.length c0_3) := (blk_cell BK258.out 3).trans rfl
        have hcz7_4 : w3.cell? ⟨gb258, 4, none⟩ = some (.int .i64 a0_4) := (blk_cell BK258.out 4).trans rfl
        have hcz7_5 : w3.cell? ⟨gb258, 5, none⟩ = some (.slice A0_5 l0_5.length c0_5) := (blk_cell BK258.out 5).trans rfl
        have hfz7_0 := blk_frozen BK258.out 0
        have hfz7_1 := blk_frozen BK258.out 1
        have hfz7_2 := blk_frozen BK258.out 2
        have hfz7_3 := blk_frozen BK258.out 3
        have hfz7_4 := blk_frozen BK258.out 4
        have hfz7_5 := blk_frozen BK258.out 5
        go_wp2
        go_meet
        case rel => exact ⟨_, (true), (by first | rfl | (simp; done) | (simp [*]; done)), H', ⟨by first | omega | exact Nat.le_refl _⟩, ⟨by (with_reducible repeat (first | refine blk_drewN ?_ _ | refine blk_drew ?_ | refine blk_alloc ?_ _)); exact BK258.out⟩, ⟨by repeat (first | (with_reducible first | exact HB.out | apply below_alloc | apply pw_below_drewN | apply below_drew1 | refine below_set ?_ GE258.out) | exact HB.out)⟩⟩
      · rw [if_neg c6] at H
        have c6b0 : decide (99999999 < a0_0) = false := decide_eq_false c6
        clear c6
        by_cases c8 : a0_4 < 1
        · rw [if_pos c8] at H
          have c8b0 : decide (a0_4 < 1) = true := decide_eq_true c8
          clear c8
          have H' := Aside0.mk H
          clear H
          have hcz9_0 : w3.cell? ⟨gb258, 0, none⟩ = some (.int .i64 a0_0) := (blk_cell BK258.out 0).trans rfl
          have hcz9_1 : w3.cell? ⟨gb258, 1, none⟩ = some (.int .u64 a0_1) := (blk_cell BK258.out 1).trans rfl
          have hcz9_2 : w3.cell? ⟨gb258, 2, none⟩ = some (.int .u64 a0_2) := (blk_cell BK258.out 2).trans rfl
          have hcz9_3 : w3.cell? ⟨gb258, 3, none⟩ = some (.slice A0_3 l0_3.length c0_3) := (blk_cell BK258.out 3).trans rfl
          have hcz9_4 : w3.cell? ⟨gb258, 4, none⟩ = some (.int .i64 a0_4) := (blk_cell BK258.out 4).trans rfl
          have hcz9_5 : w3.cell? ⟨gb258, 5, none⟩ = some (.slice A0_5 l0_5.length c0_5) := (blk_cell BK258.out 5).trans rfl
          have hfz9_0 := blk_frozen BK258.out 0
          have hfz9_1 := blk_frozen BK258.out 1
          have hfz9_2 := blk_frozen BK258.out 2
          have hfz9_3 := blk_frozen BK258.out 3
          have hfz9_4 := blk_frozen BK258.out 4
          have hfz9_5 := blk_frozen BK258.out 5
          go_wp2
          go_meet
          case rel => exact ⟨_, (true), (by first | rfl | (simp; done) | (simp [*]; done)), H', ⟨by first | omega | exact Nat.le_refl _⟩, ⟨by (with_reducible repeat (first | refine blk_drewN ?_ _ | refine blk_drew ?_ | refine blk_alloc ?_ _)); exact BK258.out⟩, ⟨by repeat (first | (with_reducible first | exact HB.out | apply below_alloc | apply pw_below_drewN | apply below_drew1 | refine below_set ?_ GE258.out) | exact HB.out)⟩⟩
        · rw [if_neg c8] at H
          have c8b0 : decide (a0_4 < 1) = false := decide_eq_false c8
          clear c8
          by_cases c10 : a0_4 > 99999999
          · rw [if_pos c10] at H
            have c10b0 : decide (99999999 < a0_4) = true := decide_eq_true c10
            clear c10
            have H' := Aside0.mk H
            clear H
            have hcz11_0 : w3.cell? ⟨gb258, 0, none⟩ = some (.int .i64 a0_0) := (blk_cell BK258.out 0).trans rfl
            have hcz11_1 : w3.cell? ⟨gb258, 1, none⟩ = some (.int .u64 a0_1) := (blk_cell BK258.out 1).trans rfl
            have hcz11_2 : w3.cell? ⟨gb258, 2, none⟩ = some (.int .u64 a0_2) := (blk_cell BK258.out 2).trans rfl
            have hcz11_3 : w3.cell? ⟨gb258, 3, none⟩ = some (.slice A0_3 l0_3.length c0_3) := (blk_cell BK258.out 3).trans rfl
            have hcz11_4 : w3.cell? ⟨gb258, 4, none⟩ = some (.int .i64 a0_4) := (blk_cell BK258.out 4).trans rfl
            have hcz11_5 : w3.cell? ⟨gb258, 5, none⟩ = some (.slice A0_5 l0_5.length c0_5) := (blk_cell BK258.out 5).trans rfl
            have hfz11_0 := blk_frozen BK258.out 0
            have hfz11_1 := blk_frozen BK258.out 1
            have hfz11_2 := blk_frozen BK258.out 2
            have hfz11_3 := blk_frozen BK258.out 3
            have hfz11_4 := blk_frozen BK258.out 4
            have hfz11_5 := blk_frozen BK258.out 5
            go_wp2
            go_meet
            case rel => exact ⟨_, (true), (by first | rfl | (simp; done) | (simp [*]; done)), H', ⟨by first | omega | exact Nat.le_refl _⟩, ⟨by (with_reducible repeat (first | refine blk_drewN ?_ _ | refine blk_drew ?_ | refine blk_alloc ?_ _)); exact BK258.out⟩, ⟨by repeat (first | (with_reducible first | exact HB.out | apply below_alloc | apply pw_below_drewN | apply below_drew1 | refine below_set ?_ GE258.out) | exact HB.out)⟩⟩
          · rw [if_neg c10] at H
            have c10b0 : decide (99999999 < a0_4) = false := decide_eq_false c10
            clear c10
            by_cases c12 : (l0_5.length : Int) < 1
            · rw [if_pos c12] at H
              have c12b0 : decide ((l0_5.length : Int) < 1) = true := decide_eq_true c12
              have c12b1 : decide (l0_5.length < 1) = true := decide_eq_true (by omega)
              clear c12
              have H' := Aside0.mk H
              clear H
              have hcz13_0 : w3.cell? ⟨gb258, 0, none⟩ = some (.int .i64 a0_0) := (blk_cell BK258.out 0).trans rfl
              have hcz13_1 : w3.cell? ⟨gb258, 1, none⟩ = some (.int .u64 a0_1) := (blk_cell BK258.out 1).trans rfl
              have hcz13_2 : w3.cell? ⟨gb258, 2, none⟩ = some (.int .u64 a0_2) := (blk_cell BK258.out 2).trans rfl
              have hcz13_3 : w3.cell? ⟨gb258, 3, none⟩ = some (.slice A0_3 l0_3.length c0_3) := (blk_cell BK258.out 3).trans rfl
              have hcz13_4 : w3.cell? ⟨gb258, 4, none⟩ = some (.int .i64 a0_4) := (blk_cell BK258.out 4).trans rfl
              have hcz13_5 : w3.cell? ⟨gb258, 5, none⟩ = some (.slice A0_5 l0_5.length c0_5) := (blk_cell BK258.out 5).trans rfl
              have hfz13_0 := blk_frozen BK258.out 0
              have hfz13_1 := blk_frozen BK258.out 1
              have hfz13_2 := blk_frozen BK258.out 2
              have hfz13_3 := blk_frozen BK258.out 3
              have hfz13_4 := blk_frozen BK258.out 4
              have hfz13_5 := blk_frozen BK258.out 5
              go_wp2
              go_meet
              case rel => exact ⟨_, (true), (by first | rfl | (simp; done) | (simp [*]; done)), H', ⟨by first | omega | exact Nat.le_refl _⟩, ⟨by (with_reducible repeat (first | refine blk_drewN ?_ _ | refine blk_drew ?_ | refine blk_alloc ?_ _)); exact BK258.out⟩, ⟨by repeat (first | (with_reducible first | exact HB.out | apply below_alloc | apply pw_below_drewN | apply below_drew1 | refine below_set ?_ GE258.out) | exact HB.out)⟩⟩
            · rw [if_neg c12] at H
              have c12b0 : decide ((l0_5.length : Int) < 1) = false := decide_eq_false c12
              have c12b1 : decide (l0_5.length < 1) = false := decide_eq_false (by omega)
              clear c12
              have H' := Aside0.mk H
              clear H
              have hcz14_0 : w3.cell? ⟨gb258, 0, none⟩ = some (.int .i64 a0_0) := (blk_cell BK258.out 0).trans rfl
              have hcz14_1 : w3.cell? ⟨gb258, 1, none⟩ = some (.int .u64 a0_1) := (blk_cell BK258.out 1).trans rfl
              have hcz14_2 : w3.cell? ⟨gb258, 2, none⟩ = some (.int .u64 a0_2) := (blk_cell BK258.out 2).trans rfl
              have hcz14_3 : w3.cell? ⟨gb258, 3, none⟩ = some (.slice A0_3 l0_3.length c0_3) := (blk_cell BK258.out 3).trans rfl
              have hcz14_4 : w3.cell? ⟨gb258, 4, none⟩ = some (.int .i64 a0_4) := (blk_cell BK258.out 4).trans rfl
              have hcz14_5 : w3.cell? ⟨gb258, 5, none⟩ = some (.slice A0_5 l0_5.length c0_5) := (blk_cell BK258.out 5).trans rfl
              have hfz14_0 := blk_frozen BK258.out 0
              have hfz14_1 := blk_frozen BK258.out 1
              have hfz14_2 := blk_frozen BK258.out 2
              have hfz14_3 := blk_frozen BK258.out 3
              have hfz14_4 := blk_frozen BK258.out 4
              have hfz14_5 := blk_frozen BK258.out 5
              go_wp2
              go_meet
              case rel => exact ⟨_, (decide ((l0_5.length : Int) > 65536)), (by first | rfl | (simp; done) | (simp [*]; done)), H', ⟨by first | omega | exact Nat.le_refl _⟩, ⟨by (with_reducible repeat (first | refine blk_drewN ?_ _ | refine blk_drew ?_ | refine blk_alloc ?_ _)); exact BK258.out⟩, ⟨by repeat (first | (with_reducible first | exact HB.out | apply below_alloc | apply pw_below_drewN | apply below_drew1 | refine below_set ?_ GE258.out) | exact HB.out)⟩⟩
  case rest =>
    clear HC2
    try clear c1
    try clear p2
    try clear c4
    try clear c4b0
    try clear c6
    try clear c6b0
    try clear c8
    try clear c8b0
    try clear c10
    try clear c10b0
    try clear c12
    try clear c12b0
    try clear c12b1
    try clear hcz11_0
    try clear hcz11_1
    try clear hcz11_2
    try clear hcz11_3
    try clear hcz11_4
    try clear hcz11_5
    try clear hcz13_0
    try clear hcz13_1
    try clear hcz13_2
    try clear hcz13_3
    try clear hcz13_4
    try clear hcz13_5
    try clear hcz14_0
    try clear hcz14_1
    try clear hcz14_2
    try clear hcz14_3
    try clear hcz14_4
    try clear hcz14_5
    try clear hcz5_0
    try clear hcz5_1
    try clear hcz5_2
    try clear hcz5_3
    try clear hcz5_4
    try clear hcz5_5
    try clear hcz7_0
    try clear hcz7_1
    try clear hcz7_2
    try clear hcz7_3
    try clear hcz7_4
    try clear hcz7_5
    try clear hcz9_0
    try clear hcz9_1
    try clear hcz9_2
    try clear hcz9_3
    try clear hcz9_4
    try clear hcz9_5
    try clear hfz11_0
    try clear hfz11_1
    try clear hfz11_2
    try clear hfz11_3
    try clear hfz11_4
    try clear hfz11_5
    try clear hfz13_0
    try clear hfz13_1
    try clear hfz13_2
    try clear hfz13_3
    try clear hfz13_4
    try clear hfz13_5
    try clear hfz14_0
    try clear hfz14_1
    try clear hfz14_2
    try clear hfz14_3
    try clear hfz14_4
    try clear hfz14_5
    try clear hfz5_0
    try clear hfz5_1
    try clear hfz5_2
    try clear hfz5_3
    try clear hfz5_4
    try clear hfz5_5
    try clear hfz7_0
    try clear hfz7_1
    try clear hfz7_2
    try clear hfz7_3
    try clear hfz7_4
    try clear hfz7_5
    try clear hfz9_0
    try clear hfz9_1
    try clear hfz9_2
    try clear hfz9_3
    try clear hfz9_4
    try clear hfz9_5
    obtain ⟨kq, x36_1, rfl, HA, HJ1, BK258, HB⟩ := hcut
    cases kq with
    | zero => exact absurd HA.out (by simp [image_goodDelta.j0])
    | succ kj1 =>
      have H := HA.out
      clear HA
      simp only [image_goodDelta.j0] at H
      by_cases c15 : x36_1 = true
      · subst c15
        have H1 : (some false) = some r := by rw [if_pos rfl] at H; exact H
        clear H
        have H := H1
        clear H1
        obtain rfl := Option.some.inj H
        go_wp2
        go_ret
        exact ⟨by first | rfl | (simp [errW_none, errW_some] <;> rfl) | (simp [*, errW_none, errW_some] <;> rfl), by repeat (first | (with_reducible first | exact HB.out | apply below_alloc | apply pw_below_drewN | apply below_drew1 | refine below_set ?_ GE258.out) | exact HB.out)⟩
      · replace c15 := Bool.eq_false_iff.mpr c15
        subst c15
        have H1 : (image_goodDelta.l0 kj1 l0_5 (l0_5.length : Int) 0 0 (⟨#[]⟩ : ByteArray)) = some r := by rw [if_neg (show ¬ (false = true) by decide)] at H; exact H
        clear H
        have H := H1
        clear H1
        have H' := Aside0.mk H
        clear H
        go_wp2_with (first | ((with_reducible refine gate_dst (N := 3) rfl ?_); (try (refine gate_guard (by rfl) ?_; dsimp only)); refine box_event ?hg (N := 3) ?hd (cs := #[.int .u64 0, .string (⟨#[]⟩ : ByteArray)]) (t := 121) ?hr ?_; (case hd => rfl); (case hg => rfl); (case hr => first | (go_simp; done) | (go_simp; rfl)); intro gb259 hg w16 hbox hb; have n0_ := Aside0.mk (blk_below (g := gb258) (o := .cells #[.int .i64 a0_0, .int .u64 a0_1, .int .u64 a0_2, .slice A0_3 l0_3.length c0_3, .int .i64 a0_4, .slice A0_5 l0_5.length c0_5] 46 (0, 0)) (by (with_reducible repeat (first | refine blk_drewN ?_ _ | refine blk_drew ?_ | refine blk_alloc ?_ _)); exact BK258.out) hb); have n1_ := Aside0.mk (below_step (by repeat (first | (with_reducible first | exact HB.out | apply below_alloc | apply pw_below_drewN | apply below_drew1 | refine below_set ?_ GE258.out) | exact HB.out)) hb); have n2_ := Aside0.mk (hbox); have n3_ := Aside0.mk ((by rw [hg]; exact (below_size (by repeat (first | (with_reducible first | exact HB.out | apply below_alloc | apply pw_below_drewN | apply below_drew1 | refine below_set ?_ GE258.out) | exact HB.out))) : w.heap.size ≤ gb259)); have n4_ := Aside0.mk ((by rw [hg]; exact (below_size (by repeat (first | (with_reducible first | exact HB.out | apply below_alloc | apply pw_below_drewN | apply below_drew1 | refine below_set ?_ GE258.out) | exact HB.out))) : w.heap.size ≤ gb259)); have n5_ := Aside0.mk ((by rw [hg]; exact Nat.ne_of_lt (blk_lt (g := gb258) (o := .cells #[.int .i64 a0_0, .int .u64 a0_1, .int .u64 a0_2, .slice A0_3 l0_3.length c0_3, .int .i64 a0_4, .slice A0_5 l0_5.length c0_5] 46 (0, 0)) (by (with_reducible repeat (first | refine blk_drewN ?_ _ | refine blk_drew ?_ | refine blk_alloc ?_ _)); exact BK258.out)) : gb258 ≠ gb259)); have n6_ := Aside0.mk ((by rw [hg]; exact Nat.ne_of_gt (blk_lt (g := gb258) (o := .cells #[.int .i64 a0_0, .int .u64 a0_1, .int .u64 a0_2, .slice A0_3 l0_3.length c0_3, .int .i64 a0_4, .slice A0_5 l0_5.length c0_5] 46 (0, 0)) (by (with_reducible repeat (first | refine blk_drewN ?_ _ | refine blk_drew ?_ | refine blk_alloc ?_ _)); exact BK258.out)) : gb259 ≠ gb258)); clear BK258; clear HB; have BK258 := n0_; have HB := n1_; have BK259 := n2_; have GW259 := n3_; have GE259 := n4_; have NB258_259 := n5_; have NB259_258 := n6_; clear n0_ n1_ n2_ n3_ n4_ n5_ n6_; clear hb hbox hg; have hnb17 := NB258_259.out; have hnc17 := NB259_258.out; have hcz18_0 : w16.cell? ⟨gb258, 0, none⟩ = some (.int .i64 a0_0) := (blk_cell BK258.out 0).trans rfl; have hcz18_1 : w16.cell? ⟨gb258, 1, none⟩ = some (.int .u64 a0_1) := (blk_cell BK258.out 1).trans rfl; have hcz18_2 : w16.cell? ⟨gb258, 2, none⟩ = some (.int .u64 a0_2) := (blk_cell BK258.out 2).trans rfl; have hcz18_3 : w16.cell? ⟨gb258, 3, none⟩ = some (.slice A0_3 l0_3.length c0_3) := (blk_cell BK258.out 3).trans rfl; have hcz18_4 : w16.cell? ⟨gb258, 4, none⟩ = some (.int .i64 a0_4) := (blk_cell BK258.out 4).trans rfl; have hcz18_5 : w16.cell? ⟨gb258, 5, none⟩ = some (.slice A0_5 l0_5.length c0_5) := (blk_cell BK258.out 5).trans rfl; have hfz18_0 := blk_frozen BK258.out 0; have hfz18_1 := blk_frozen BK258.out 1; have hfz18_2 := blk_frozen BK258.out 2; have hfz18_3 := blk_frozen BK258.out 3; have hfz18_4 := blk_frozen BK258.out 4; have hfz18_5 := blk_frozen BK258.out 5))
        go_loopg [40] kj1 (fun kq v40 w' => ∃ (x40_2 : Int) (x260000_2 : Int) (x260001_2 : ByteArray), v40 = .int .i64 x40_2 ∧ Aside0 (image_goodDelta.l0 kq l0_5 (l0_5.length : Int) x40_2 x260000_2 x260001_2 = some r) ∧ Aside0 (kq ≤ kj1) ∧ Aside0 (w'.heap[gb258]? = some (.cells #[.int .i64 a0_0, .int .u64 a0_1, .int .u64 a0_2, (.slice A0_3 l0_3.length c0_3), .int .i64 a0_4, (.slice A0_5 l0_5.length c0_5)] 46 (0, 0))) ∧ Aside0 (w'.heap[gb259]? = some (.cells #[.int .u64 x260000_2, .string x260001_2] 121 (0, 0))) ∧ Aside0 (Below w.heap.size w w'))
        case atStart => exact ⟨(0), (0), ((⟨#[]⟩ : ByteArray)), (by first | rfl | (simp; done) | (simp [*]; done)), H', ⟨Nat.le_refl _⟩, ⟨by (with_reducible repeat (first | refine blk_drewN ?_ _ | refine blk_drew ?_ | refine blk_alloc ?_ _)); exact BK258.out⟩, ⟨by (with_reducible repeat (first | refine blk_drewN ?_ _ | refine blk_drew ?_ | refine blk_alloc ?_ _)); exact BK259.out⟩, ⟨by repeat (first | (with_reducible first | exact HB.out | apply below_alloc | apply pw_below_drewN | apply below_drew1 | refine below_set ?_ GE258.out | refine below_set ?_ GE259.out) | exact HB.out)⟩⟩
        case round =>
          clear H'
          try clear c1
          try clear p2
          try clear c4
          try clear c4b0
          try clear c6
          try clear c6b0
          try clear c8
          try clear c8b0
          try clear c10
          try clear c10b0
          try clear c12
          try clear c12b0
          try clear c12b1
          try clear c15
          try clear c17
          try clear hcz11_0
          try clear hcz11_1
          try clear hcz11_2
          try clear hcz11_3
          try clear hcz11_4
          try clear hcz11_5
          try clear hcz13_0
          try clear hcz13_1
          try clear hcz13_2
          try clear hcz13_3
          try clear hcz13_4
          try clear hcz13_5
          try clear hcz14_0
          try clear hcz14_1
          try clear hcz14_2
          try clear hcz14_3
          try clear hcz14_4
          try clear hcz14_5
          try clear hcz18_0
          try clear hcz18_1
          try clear hcz18_2
          try clear hcz18_3
          try clear hcz18_4
          try clear hcz18_5
          try clear hcz5_0
          try clear hcz5_1
          try clear hcz5_2
          try clear hcz5_3
          try clear hcz5_4
          try clear hcz5_5
          try clear hcz7_0
          try clear hcz7_1
          try clear hcz7_2
          try clear hcz7_3
          try clear hcz7_4
          try clear hcz7_5
          try clear hcz9_0
          try clear hcz9_1
          try clear hcz9_2
          try clear hcz9_3
          try clear hcz9_4
          try clear hcz9_5
          try clear hfz11_0
          try clear hfz11_1
          try clear hfz11_2
          try clear hfz11_3
          try clear hfz11_4
          try clear hfz11_5
          try clear hfz13_0
          try clear hfz13_1
          try clear hfz13_2
          try clear hfz13_3
          try clear hfz13_4
          try clear hfz13_5
          try clear hfz14_0
          try clear hfz14_1
          try clear hfz14_2
          try clear hfz14_3
          try clear hfz14_4
          try clear hfz14_5
          try clear hfz18_0
          try clear hfz18_1
          try clear hfz18_2
          try clear hfz18_3
          try clear hfz18_4
          try clear hfz18_5
          try clear hfz5_0
          try clear hfz5_1
          try clear hfz5_2
          try clear hfz5_3
          try clear hfz5_4
          try clear hfz5_5
          try clear hfz7_0
          try clear hfz7_1
          try clear hfz7_2
          try clear hfz7_3
          try clear hfz7_4
          try clear hfz7_5
          try clear hfz9_0
          try clear hfz9_1
          try clear hfz9_2
          try clear hfz9_3
          try clear hfz9_4
          try clear hfz9_5
          try clear p2
          obtain ⟨x40_2, x260000_2, x260001_2, rfl, HA, HK2, BK258, BK259, HB⟩ := hrel
          cases gk with
          | zero => exact absurd HA.out (by simp [image_goodDelta.l0])
          | succ k2 =>
            have H := HA.out
            clear HA
            simp only [image_goodDelta.l0] at H
            by_cases c19 : x40_2 < (l0_5.length : Int)
            · rw [if_pos c19] at H
              have c19b0 : decide (x40_2 < (l0_5.length : Int)) = true := decide_eq_true c19
              clear c19
              by_cases c20 : 0 ≤ x40_2
              · rw [if_pos c20] at H
                have c20b0 : decide (0 ≤ x40_2) = true := decide_eq_true c20
                clear c20
                by_cases c21 : x40_2 < (l0_5.length : Int)
                · rw [if_pos c21] at H
                  have c21b0 : decide (x40_2 < (l0_5.length : Int)) = true := decide_eq_true c21
                  clear c21
                  by_cases c22 : ((rd_T60 l0_5 x40_2).f0) < 1
                  · rw [if_pos c22] at H
                    have c22b0 : decide (((rd_T60 l0_5 x40_2).f0) < 1) = true := decide_eq_true c22
                    clear c22
                    obtain rfl := Option.some.inj H
                    have p260 : 0 ≤ (x40_2 : Int) := of_decide_eq_true (by first | (with_reducible assumption) | assumption)
                    have q260 : x40_2 < (l0_5.length : Int) := of_decide_eq_true (by first | (with_reducible assumption) | assumption)
                    obtain ⟨ad260, e260, hx260_0, hx260_1, hx260_2⟩ := at_T60 HR0_5.out x40_2 p260 q260
                    cases e260
                    replace hx260_0 := (HB.out.cell (World.block_lt_of_cell? w _ hx260_0)).trans hx260_0
                    replace hx260_1 := (HB.out.cell (World.block_lt_of_cell? w _ hx260_1)).trans hx260_1
                    replace hx260_2 := (HB.out.cell (World.block_lt_of_cell? w _ hx260_2)).trans hx260_2
                    replace p260 := eq_true p260
                    replace q260 := eq_true q260
                    go_wp2_with (first | ((with_reducible refine gate_dst (N := 5) rfl ?_); (try (refine gate_guard (by rfl) ?_; dsimp only)); refine box_event ?hg (N := 5) ?hd (cs := #[.int .u64 0, .int .u64 0, .string (⟨#[]⟩ : ByteArray)]) (t := 60) ?hr ?_; (case hd => rfl); (case hg => rfl); (case hr => first | (go_simp; done) | (go_simp; rfl)); intro gb261 hg w23 hbox hb; have n0_ := Aside0.mk (blk_below (g := gb258) (o := .cells #[.int .i64 a0_0, .int .u64 a0_1, .int .u64 a0_2, .slice A0_3 l0_3.length c0_3, .int .i64 a0_4, .slice (some ad260) l0_5.length c0_5] 46 (0, 0)) (by (with_reducible repeat (first | refine blk_drewN ?_ _ | refine blk_drew ?_ | refine blk_alloc ?_ _)); exact BK258.out) hb); have n1_ := Aside0.mk (blk_below (g := gb259) (o := .cells #[.int .u64 x260000_2, .string x260001_2] 121 (0, 0)) (by (with_reducible repeat (first | refine blk_drewN ?_ _ | refine blk_drew ?_ | refine blk_alloc ?_ _)); exact BK259.out) hb); have n2_ := Aside0.mk (below_step (by repeat (first | (with_reducible first | exact HB.out | apply below_alloc | apply pw_below_drewN | apply below_drew1 | refine below_set ?_ GE258.out | refine below_set ?_ GE259.out) | exact HB.out)) hb); have n3_ := Aside0.mk (hbox); have n4_ := Aside0.mk ((by rw [hg]; exact (below_size (by repeat (first | (with_reducible first | exact HB.out | apply below_alloc | apply pw_below_drewN | apply below_drew1 | refine below_set ?_ GE258.out | refine below_set ?_ GE259.out) | exact HB.out))) : w.heap.size ≤ gb261)); have n5_ := Aside0.mk ((by rw [hg]; exact (below_size (by repeat (first | (with_reducible first | exact HB.out | apply below_alloc | apply pw_below_drewN | apply below_drew1 | refine below_set ?_ GE258.out | refine below_set ?_ GE259.out) | exact HB.out))) : w.heap.size ≤ gb261)); have n6_ := Aside0.mk ((by rw [hg]; exact Nat.ne_of_lt (blk_lt (g := gb258) (o := .cells #[.int .i64 a0_0, .int .u64 a0_1, .int .u64 a0_2, .slice A0_3 l0_3.length c0_3, .int .i64 a0_4, .slice (some ad260) l0_5.length c0_5] 46 (0, 0)) (by (with_reducible repeat (first | refine blk_drewN ?_ _ | refine blk_drew ?_ | refine blk_alloc ?_ _)); exact BK258.out)) : gb258 ≠ gb261)); have n7_ := Aside0.mk ((by rw [hg]; exact Nat.ne_of_gt (blk_lt (g := gb258) (o := .cells #[.int .i64 a0_0, .int .u64 a0_1, .int .u64 a0_2, .slice A0_3 l0_3.length c0_3, .int .i64 a0_4, .slice (some ad260) l0_5.length c0_5] 46 (0, 0)) (by (with_reducible repeat (first | refine blk_drewN ?_ _ | refine blk_drew ?_ | refine blk_alloc ?_ _)); exact BK258.out)) : gb261 ≠ gb258)); have n8_ := Aside0.mk ((by rw [hg]; exact Nat.ne_of_lt (blk_lt (g := gb259) (o := .cells #[.int .u64 x260000_2, .string x260001_2] 121 (0, 0)) (by (with_reducible repeat (first | refine blk_drewN ?_ _ | refine blk_drew ?_ | refine blk_alloc ?_ _)); exact BK259.out)) : gb259 ≠ gb261)); have n9_ := Aside0.mk ((by rw [hg]; exact Nat.ne_of_gt (blk_lt (g := gb259) (o := .cells #[.int .u64 x260000_2, .string x260001_2] 121 (0, 0)) (by (with_reducible repeat (first | refine blk_drewN ?_ _ | refine blk_drew ?_ | refine blk_alloc ?_ _)); exact BK259.out)) : gb261 ≠ gb259)); clear BK258; clear BK259; clear HB; have BK258 := n0_; have BK259 := n1_; have HB := n2_; have BK261 := n3_; have GW261 := n4_; have GE261 := n5_; have NB258_261 := n6_; have NB261_258 := n7_; have NB259_261 := n8_; have NB261_259 := n9_; clear n0_ n1_ n2_ n3_ n4_ n5_ n6_ n7_ n8_ n9_; clear hb hbox hg; have hnb24 := NB261_258.out; have hnc24 := NB258_261.out; have hnb25 := NB261_259.out; have hnc25 := NB259_261.out; have hcz26_0 : w23.cell? ⟨gb261, 0, none⟩ = some (.int .u64 0) := (blk_cell BK261.out 0).trans rfl; have hcz26_1 : w23.cell? ⟨gb261, 1, none⟩ = some (.int .u64 0) := (blk_cell BK261.out 1).trans rfl; have hcz26_2 : w23.cell? ⟨gb261, 2, none⟩ = some (.string (⟨#[]⟩ : ByteArray)) := (blk_cell BK261.out 2).trans rfl; have hfz26_0 := blk_frozen BK261.out 0; have hfz26_1 := blk_frozen BK261.out 1; have hfz26_2 := blk_frozen BK261.out 2) | ((with_reducible refine gate_dst (N := 6) rfl ?_); (try (refine gate_guard (by rfl) ?_; dsimp only)); refine box_event ?hg (N := 6) ?hd (cs := #[.int .u64 0, .string (⟨#[]⟩ : ByteArray)]) (t := 121) ?hr ?_; (case hd => rfl); (case hg => rfl); (case hr => first | (go_simp; done) | (go_simp; rfl)); intro gb262 hg w27 hbox hb; have n0_ := Aside0.mk (blk_below (g := gb258) (o := .cells #[.int .i64 a0_0, .int .u64 a0_1, .int .u64 a0_2, .slice A0_3 l0_3.length c0_3, .int .i64 a0_4, .slice (some ad260) l0_5.length c0_5] 46 (0, 0)) (by (with_reducible repeat (first | refine blk_drewN ?_ _ | refine blk_drew ?_ | refine blk_alloc ?_ _)); refine blk_far ?_ NB258_261.out _; (with_reducible repeat (first | refine blk_drewN ?_ _ | refine blk_drew ?_ | refine blk_alloc ?_ _)); refine blk_far ?_ NB258_261.out _; (with_reducible repeat (first | refine blk_drewN ?_ _ | refine blk_drew ?_ | refine blk_alloc ?_ _)); refine blk_far ?_ NB258_261.out _; (with_reducible repeat (first | refine blk_drewN ?_ _ | refine blk_drew ?_ | refine blk_alloc ?_ _)); exact BK258.out) hb); have n1_ := Aside0.mk (blk_below (g := gb259) (o := .cells #[.int .u64 x260000_2, .string x260001_2] 121 (0, 0)) (by (with_reducible repeat (first | refine blk_drewN ?_ _ | refine blk_drew ?_ | refine blk_alloc ?_ _)); refine blk_far ?_ NB259_261.out _; (with_reducible repeat (first | refine blk_drewN ?_ _ | refine blk_drew ?_ | refine blk_alloc ?_ _)); refine blk_far ?_ NB259_261.out _; (with_reducible repeat (first | refine blk_drewN ?_ _ | refine blk_drew ?_ | refine blk_alloc ?_ _)); refine blk_far ?_ NB259_261.out _; (with_reducible repeat (first | refine blk_drewN ?_ _ | refine blk_drew ?_ | refine blk_alloc ?_ _)); exact BK259.out) hb); have n2_ := Aside0.mk (blk_below (g := gb261) (o := .cells #[.int .u64 ((rd_T60 l0_5 x40_2).f0), .int .u64 ((rd_T60 l0_5 x40_2).f1), .string ((rd_T60 l0_5 x40_2).f2)] 60 (0, 0)) (by (with_reducible repeat (first | refine blk_drewN ?_ _ | refine blk_drew ?_ | refine blk_alloc ?_ _)); refine blk_put (cs := #[.int .u64 ((rd_T60 l0_5 x40_2).f0), .int .u64 ((rd_T60 l0_5 x40_2).f1), .string (⟨#[]⟩ : ByteArray)]) ?_ 2 _ rfl; (with_reducible repeat (first | refine blk_drewN ?_ _ | refine blk_drew ?_ | refine blk_alloc ?_ _)); refine blk_put (cs := #[.int .u64 ((rd_T60 l0_5 x40_2).f0), .int .u64 0, .string (⟨#[]⟩ : ByteArray)]) ?_ 1 _ rfl; (with_reducible repeat (first | refine blk_drewN ?_ _ | refine blk_drew ?_ | refine blk_alloc ?_ _)); refine blk_put (cs := #[.int .u64 0, .int .u64 0, .string (⟨#[]⟩ : ByteArray)]) ?_ 0 _ rfl; (with_reducible repeat (first | refine blk_drewN ?_ _ | refine blk_drew ?_ | refine blk_alloc ?_ _)); exact BK261.out) hb); have n3_ := Aside0.mk (below_step (by repeat (first | (with_reducible first | exact HB.out | apply below_alloc | apply pw_below_drewN | apply below_drew1 | refine below_set ?_ GE258.out | refine below_set ?_ GE259.out | refine below_set ?_ GE261.out) | exact HB.out)) hb); have n4_ := Aside0.mk (hbox); have n5_ := Aside0.mk ((by rw [hg]; exact (below_size (by repeat (first | (with_reducible first | exact HB.out | apply below_alloc | apply pw_below_drewN | apply below_drew1 | refine below_set ?_ GE258.out | refine below_set ?_ GE259.out | refine below_set ?_ GE261.out) | exact HB.out))) : w.heap.size ≤ gb262)); have n6_ := Aside0.mk ((by rw [hg]; exact (below_size (by repeat (first | (with_reducible first | exact HB.out | apply below_alloc | apply pw_below_drewN | apply below_drew1 | refine below_set ?_ GE258.out | refine below_set ?_ GE259.out | refine below_set ?_ GE261.out) | exact HB.out))) : w.heap.size ≤ gb262)); have n7_ := Aside0.mk ((by rw [hg]; exact Nat.ne_of_lt (blk_lt (g := gb258) (o := .cells #[.int .i64 a0_0, .int .u64 a0_1, .int .u64 a0_2, .slice A0_3 l0_3.length c0_3, .int .i64 a0_4, .slice (some ad260) l0_5.length c0_5] 46 (0, 0)) (by (with_reducible repeat (first | refine blk_drewN ?_ _ | refine blk_drew ?_ | refine blk_alloc ?_ _)); refine blk_far ?_ NB258_261.out _; (with_reducible repeat (first | refine blk_drewN ?_ _ | refine blk_drew ?_ | refine blk_alloc ?_ _)); refine blk_far ?_ NB258_261.out _; (with_reducible repeat (first | refine blk_drewN ?_ _ | refine blk_drew ?_ | refine blk_alloc ?_ _)); refine blk_far ?_ NB258_261.out _; (with_reducible repeat (first | refine blk_drewN ?_ _ | refine blk_drew ?_ | refine blk_alloc ?_ _)); exact BK258.out)) : gb258 ≠ gb262)); have n8_ := Aside0.mk ((by rw [hg]; exact Nat.ne_of_gt (blk_lt (g := gb258) (o := .cells #[.int .i64 a0_0, .int .u64 a0_1, .int .u64 a0_2, .slice A0_3 l0_3.length c0_3, .int .i64 a0_4, .slice (some ad260) l0_5.length c0_5] 46 (0, 0)) (by (with_reducible repeat (first | refine blk_drewN ?_ _ | refine blk_drew ?_ | refine blk_alloc ?_ _)); refine blk_far ?_ NB258_261.out _; (with_reducible repeat (first | refine blk_drewN ?_ _ | refine blk_drew ?_ | refine blk_alloc ?_ _)); refine blk_far ?_ NB258_261.out _; (with_reducible repeat (first | refine blk_drewN ?_ _ | refine blk_drew ?_ | refine blk_alloc ?_ _)); refine blk_far ?_ NB258_261.out _; (with_reducible repeat (first | refine blk_drewN ?_ _ | refine blk_drew ?_ | refine blk_alloc ?_ _)); exact BK258.out)) : gb262 ≠ gb258)); have n9_ := Aside0.mk ((by rw [hg]; exact Nat.ne_of_lt (blk_lt (g := gb259) (o := .cells #[.int .u64 x260000_2, .string x260001_2] 121 (0, 0)) (by (with_reducible repeat (first | refine blk_drewN ?_ _ | refine blk_drew ?_ | refine blk_alloc ?_ _)); refine blk_far ?_ NB259_261.out _; (with_reducible repeat (first | refine blk_drewN ?_ _ | refine blk_drew ?_ | refine blk_alloc ?_ _)); refine blk_far ?_ NB259_261.out _; (with_reducible repeat (first | refine blk_drewN ?_ _ | refine blk_drew ?_ | refine blk_alloc ?_ _)); refine blk_far ?_ NB259_261.out _; (with_reducible repeat (first | refine blk_drewN ?_ _ | refine blk_drew ?_ | refine blk_alloc ?_ _)); exact BK259.out)) : gb259 ≠ gb262)); have n10_ := Aside0.mk ((by rw [hg]; exact Nat.ne_of_gt (blk_lt (g := gb259) (o := .cells #[.int .u64 x260000_2, .string x260001_2] 121 (0, 0)) (by (with_reducible repeat (first | refine blk_drewN ?_ _ | refine blk_drew ?_ | refine blk_alloc ?_ _)); refine blk_far ?_ NB259_261.out _; (with_reducible repeat (first | refine blk_drewN ?_ _ | refine blk_drew ?_ | refine blk_alloc ?_ _)); refine blk_far ?_ NB259_261.out _; (with_reducible repeat (first | refine blk_drewN ?_ _ | refine blk_drew ?_ | refine blk_alloc ?_ _)); refine blk_far ?_ NB259_261.out _; (with_reducible repeat (first | refine blk_drewN ?_ _ | refine blk_drew ?_ | refine blk_alloc ?_ _)); exact BK259.out)) : gb262 ≠ gb259)); have n11_ := Aside0.mk ((by rw [hg]; exact Nat.ne_of_lt (blk_lt (g := gb261) (o := .cells #[.int .u64 ((rd_T60 l0_5 x40_2).f0), .int .u64 ((rd_T60 l0_5 x40_2).f1), .string ((rd_T60 l0_5 x40_2).f2)] 60 (0, 0)) (by (with_reducible repeat (first | refine blk_drewN ?_ _ | refine blk_drew ?_ | refine blk_alloc ?_ _)); refine blk_put (cs := #[.int .u64 ((rd_T60 l0_5 x40_2).f0), .int .u64 ((rd_T60 l0_5 x40_2).f1), .string (⟨#[]⟩ : ByteArray)]) ?_ 2 _ rfl; (with_reducible repeat (first | refine blk_drewN ?_ _ | refine blk_drew ?_ | refine blk_alloc ?_ _)); refine blk_put (cs := #[.int .u64 ((rd_T60 l0_5 x40_2).f0), .int .u64 0, .string (⟨#[]⟩ : ByteArray)]) ?_ 1 _ rfl; (with_reducible repeat (first | refine blk_drewN ?_ _ | refine blk_drew ?_ | refine blk_alloc ?_ _)); refine blk_put (cs := #[.int .u64 0, .int .u64 0, .string (⟨#[]⟩ : ByteArray)]) ?_ 0 _ rfl; (with_reducible repeat (first | refine blk_drewN ?_ _ | refine blk_drew ?_ | refine blk_alloc ?_ _)); exact BK261.out)) : gb261 ≠ gb262)); have n12_ := Aside0.mk ((by rw [hg]; exact Nat.ne_of_gt (blk_lt (g := gb261) (o := .cells #[.int .u64 ((rd_T60 l0_5 x40_2).f0), .int .u64 ((rd_T60 l0_5 x40_2).f1), .string ((rd_T60 l0_5 x40_2).f2)] 60 (0, 0)) (by (with_reducible repeat (first | refine blk_drewN ?_ _ | refine blk_drew ?_ | refine blk_alloc ?_ _)); refine blk_put (cs := #[.int .u64 ((rd_T60 l0_5 x40_2).f0), .int .u64 ((rd_T60 l0_5 x40_2).f1), .string (⟨#[]⟩ : ByteArray)]) ?_ 2 _ rfl; (with_reducible repeat (first | refine blk_drewN ?_ _ | refine blk_drew ?_ | refine blk_alloc ?_ _)); refine blk_put (cs := #[.int .u64 ((rd_T60 l0_5 x40_2).f0), .int .u64 0, .string (⟨#[]⟩ : ByteArray)]) ?_ 1 _ rfl; (with_reducible repeat (first | refine blk_drewN ?_ _ | refine blk_drew ?_ | refine blk_alloc ?_ _)); refine blk_put (cs := #[.int .u64 0, .int .u64 0, .string (⟨#[]⟩ : ByteArray)]) ?_ 0 _ rfl; (with_reducible repeat (first | refine blk_drewN ?_ _ | refine blk_drew ?_ | refine blk_alloc ?_ _)); exact BK261.out)) : gb262 ≠ gb261)); clear BK258; clear BK259; clear BK261; clear HB; have BK258 := n0_; have BK259 := n1_; have BK261 := n2_; have HB := n3_; have BK262 := n4_; have GW262 := n5_; have GE262 := n6_; have NB258_262 := n7_; have NB262_258 := n8_; have NB259_262 := n9_; have NB262_259 := n10_; have NB261_262 := n11_; have NB262_261 := n12_; clear n0_ n1_ n2_ n3_ n4_ n5_ n6_ n7_ n8_ n9_ n10_ n11_ n12_; clear hb hbox hg; have hnb28 := NB262_258.out; have hnc28 := NB258_262.out; have hnb29 := NB262_259.out; have hnc29 := NB259_262.out; have hnb30 := NB262_261.out; have hnc30 := NB261_262.out; have hcz31_0 : w27.cell? ⟨gb262, 0, none⟩ = some (.int .u64 0) := (blk_cell BK262.out 0).trans rfl; have hcz31_1 : w27.cell? ⟨gb262, 1, none⟩ = some (.string (⟨#[]⟩ : ByteArray)) := (blk_cell BK262.out 1).trans rfl; have hfz31_0 := blk_frozen BK262.out 0; have hfz31_1 := blk_frozen BK262.out 1; have hcz32_0 : w27.cell? ⟨gb261, 0, none⟩ = some (.int .u64 ((rd_T60 l0_5 x40_2).f0)) := (blk_cell BK261.out 0).trans rfl; have hcz32_1 : w27.cell? ⟨gb261, 1, none⟩ = some (.int .u64 ((rd_T60 l0_5 x40_2).f1)) := (blk_cell BK261.out 1).trans rfl; have hcz32_2 : w27.cell? ⟨gb261, 2, none⟩ = some (.string ((rd_T60 l0_5 x40_2).f2)) := (blk_cell BK261.out 2).trans rfl; have hfz32_0 := blk_frozen BK261.out 0; have hfz32_1 := blk_frozen BK261.out 1; have hfz32_2 := blk_frozen BK261.out 2))
                    go_ret
                    exact ⟨by first | rfl | (simp [errW_none, errW_some] <;> rfl) | (simp [*, errW_none, errW_some] <;> rfl), by repeat (first | (with_reducible first | exact HB.out | apply below_alloc | apply pw_below_drewN | apply below_drew1 | refine below_set ?_ GE258.out | refine below_set ?_ GE259.out | refine below_set ?_ GE261.out | refine below_set ?_ GE262.out) | exact HB.out)⟩
                  · rw [if_neg c22] at H
                    have c22b0 : decide (((rd_T60 l0_5 x40_2).f0) < 1) = false := decide_eq_false c22
                    clear c22
                    by_cases c33 : ((rd_T60 l0_5 x40_2).f1) ≤ ((rd_T60 l0_5 x40_2).f0)
                    · rw [if_pos c33] at H
                      have c33b0 : decide (((rd_T60 l0_5 x40_2).f1) ≤ ((rd_T60 l0_5 x40_2).f0)) = true := decide_eq_true c33
                      clear c33
                      obtain rfl := Option.some.inj H
                      have p260 : 0 ≤ (x40_2 : Int) := of_decide_eq_true (by first | (with_reducible assumption) | assumption)
                      have q260 : x40_2 < (l0_5.length : Int) := of_decide_eq_true (by first | (with_reducible assumption) | assumption)
                      obtain ⟨ad260, e260, hx260_0, hx260_1, hx260_2⟩ := at_T60 HR0_5.out x40_2 p260 q260
                      cases e260
                      replace hx260_0 := (HB.out.cell (World.block_lt_of_cell? w _ hx260_0)).trans hx260_0
                      replace hx260_1 := (HB.out.cell (World.block_lt_of_cell? w _ hx260_1)).trans hx260_1
                      replace hx260_2 := (HB.out.cell (World.block_lt_of_cell? w _ hx260_2)).trans hx260_2
                      replace p260 := eq_true p260
                      replace q260 := eq_true q260
                      go_wp2_with (first | ((with_reducible refine gate_dst (N := 5) rfl ?_); (try (refine gate_guard (by rfl) ?_; dsimp only)); refine box_event ?hg (N := 5) ?hd (cs := #[.int .u64 0, .int .u64 0, .string (⟨#[]⟩ : ByteArray)]) (t := 60) ?hr ?_; (case hd => rfl); (case hg => rfl); (case hr => first | (go_simp; done) | (go_simp; rfl)); intro gb261 hg w34 hbox hb; have n0_ := Aside0.mk (blk_below (g := gb258) (o := .cells #[.int .i64 a0_0, .int .u64 a0_1, .int .u64 a0_2, .slice A0_3 l0_3.length c0_3, .int .i64 a0_4, .slice (some ad260) l0_5.length c0_5] 46 (0, 0)) (by (with_reducible repeat (first | refine blk_drewN ?_ _ | refine blk_drew ?_ | refine blk_alloc ?_ _)); exact BK258.out) hb); have n1_ := Aside0.mk (blk_below (g := gb259) (o := .cells #[.int .u64 x260000_2, .string x260001_2] 121 (0, 0)) (by (with_reducible repeat (first | refine blk_drewN ?_ _ | refine blk_drew ?_ | refine blk_alloc ?_ _)); exact BK259.out) hb); have n2_ := Aside0.mk (below_step (by repeat (first | (with_reducible first | exact HB.out | apply below_alloc | apply pw_below_drewN | apply below_drew1 | refine below_set ?_ GE258.out | refine below_set ?_ GE259.out) | exact HB.out)) hb); have n3_ := Aside0.mk (hbox); have n4_ := Aside0.mk ((by rw [hg]; exact (below_size (by repeat (first | (with_reducible first | exact HB.out | apply below_alloc | apply pw_below_drewN | apply below_drew1 | refine below_set ?_ GE258.out | refine below_set ?_ GE259.out) | exact HB.out))) : w.heap.size ≤ gb261)); have n5_ := Aside0.mk ((by rw [hg]; exact (below_size (by repeat (first | (with_reducible first | exact HB.out | apply below_alloc | apply pw_below_drewN | apply below_drew1 | refine below_set ?_ GE258.out | refine below_set ?_ GE259.out) | exact HB.out))) : w.heap.size ≤ gb261)); have n6_ := Aside0.mk ((by rw [hg]; exact Nat.ne_of_lt (blk_lt (g := gb258) (o := .cells #[.int .i64 a0_0, .int .u64 a0_1, .int .u64 a0_2, .slice A0_3 l0_3.length c0_3, .int .i64 a0_4, .slice (some ad260) l0_5.length c0_5] 46 (0, 0)) (by (with_reducible repeat (first | refine blk_drewN ?_ _ | refine blk_drew ?_ | refine blk_alloc ?_ _)); exact BK258.out)) : gb258 ≠ gb261)); have n7_ := Aside0.mk ((by rw [hg]; exact Nat.ne_of_gt (blk_lt (g := gb258) (o := .cells #[.int .i64 a0_0, .int .u64 a0_1, .int .u64 a0_2, .slice A0_3 l0_3.length c0_3, .int .i64 a0_4, .slice (some ad260) l0_5.length c0_5] 46 (0, 0)) (by (with_reducible repeat (first | refine blk_drewN ?_ _ | refine blk_drew ?_ | refine blk_alloc ?_ _)); exact BK258.out)) : gb261 ≠ gb258)); have n8_ := Aside0.mk ((by rw [hg]; exact Nat.ne_of_lt (blk_lt (g := gb259) (o := .cells #[.int .u64 x260000_2, .string x260001_2] 121 (0, 0)) (by (with_reducible repeat (first | refine blk_drewN ?_ _ | refine blk_drew ?_ | refine blk_alloc ?_ _)); exact BK259.out)) : gb259 ≠ gb261)); have n9_ := Aside0.mk ((by rw [hg]; exact Nat.ne_of_gt (blk_lt (g := gb259) (o := .cells #[.int .u64 x260000_2, .string x260001_2] 121 (0, 0)) (by (with_reducible repeat (first | refine blk_drewN ?_ _ | refine blk_drew ?_ | refine blk_alloc ?_ _)); exact BK259.out)) : gb261 ≠ gb259)); clear BK258; clear BK259; clear HB; have BK258 := n0_; have BK259 := n1_; have HB := n2_; have BK261 := n3_; have GW261 := n4_; have GE261 := n5_; have NB258_261 := n6_; have NB261_258 := n7_; have NB259_261 := n8_; have NB261_259 := n9_; clear n0_ n1_ n2_ n3_ n4_ n5_ n6_ n7_ n8_ n9_; clear hb hbox hg; have hnb35 := NB261_258.out; have hnc35 := NB258_261.out; have hnb36 := NB261_259.out; have hnc36 := NB259_261.out; have hcz37_0 : w34.cell? ⟨gb261, 0, none⟩ = some (.int .u64 0) := (blk_cell BK261.out 0).trans rfl; have hcz37_1 : w34.cell? ⟨gb261, 1, none⟩ = some (.int .u64 0) := (blk_cell BK261.out 1).trans rfl; have hcz37_2 : w34.cell? ⟨gb261, 2, none⟩ = some (.string (⟨#[]⟩ : ByteArray)) := (blk_cell BK261.out 2).trans rfl; have hfz37_0 := blk_frozen BK261.out 0; have hfz37_1 := blk_frozen BK261.out 1; have hfz37_2 := blk_frozen BK261.out 2) | ((with_reducible refine gate_dst (N := 6) rfl ?_); (try (refine gate_guard (by rfl) ?_; dsimp only)); refine box_event ?hg (N := 6) ?hd (cs := #[.int .u64 0, .string (⟨#[]⟩ : ByteArray)]) (t := 121) ?hr ?_; (case hd => rfl); (case hg => rfl); (case hr => first | (go_simp; done) | (go_simp; rfl)); intro gb262 hg w38 hbox hb; have n0_ := Aside0.mk (blk_below (g := gb258) (o := .cells #[.int .i64 a0_0, .int .u64 a0_1, .int .u64 a0_2, .slice A0_3 l0_3.length c0_3, .int .i64 a0_4, .slice (some ad260) l0_5.length c0_5] 46 (0, 0)) (by (with_reducible repeat (first | refine blk_drewN ?_ _ | refine blk_drew ?_ | refine blk_alloc ?_ _)); refine blk_far ?_ NB258_261.out _; (with_reducible repeat (first | refine blk_drewN ?_ _ | refine blk_drew ?_ | refine blk_alloc ?_ _)); refine blk_far ?_ NB258_261.out _; (with_reducible repeat (first | refine blk_drewN ?_ _ | refine blk_drew ?_ | refine blk_alloc ?_ _)); refine blk_far ?_ NB258_261.out _; (with_reducible repeat (first | refine blk_drewN ?_ _ | refine blk_drew ?_ | refine blk_alloc ?_ _)); exact BK258.out) hb); have n1_ := Aside0.mk (blk_below (g := gb259) (o := .cells #[.int .u64 x260000_2, .string x260001_2] 121 (0, 0)) (by (with_reducible repeat (first | refine blk_drewN ?_ _ | refine blk_drew ?_ | refine blk_alloc ?_ _)); refine blk_far ?_ NB259_261.out _; (with_reducible repeat (first | refine blk_drewN ?_ _ | refine blk_drew ?_ | refine blk_alloc ?_ _)); refine blk_far ?_ NB259_261.out _; (with_reducible repeat (first | refine blk_drewN ?_ _ | refine blk_drew ?_ | refine blk_alloc ?_ _)); refine blk_far ?_ NB259_261.out _; (with_reducible repeat (first | refine blk_drewN ?_ _ | refine blk_drew ?_ | refine blk_alloc ?_ _)); exact BK259.out) hb); have n2_ := Aside0.mk (blk_below (g := gb261) (o := .cells #[.int .u64 ((rd_T60 l0_5 x40_2).f0), .int .u64 ((rd_T60 l0_5 x40_2).f1), .string ((rd_T60 l0_5 x40_2).f2)] 60 (0, 0)) (by (with_reducible repeat (first | refine blk_drewN ?_ _ | refine blk_drew ?_ | refine blk_alloc ?_ _)); refine blk_put (cs := #[.int .u64 ((rd_T60 l0_5 x40_2).f0), .int .u64 ((rd_T60 l0_5 x40_2).f1), .string (⟨#[]⟩ : ByteArray)]) ?_ 2 _ rfl; (with_reducible repeat (first | refine blk_drewN ?_ _ | refine blk_drew ?_ | refine blk_alloc ?_ _)); refine blk_put (cs := #[.int .u64 ((rd_T60 l0_5 x40_2).f0), .int .u64 0, .string (⟨#[]⟩ : ByteArray)]) ?_ 1 _ rfl; (with_reducible repeat (first | refine blk_drewN ?_ _ | refine blk_drew ?_ | refine blk_alloc ?_ _)); refine blk_put (cs := #[.int .u64 0, .int .u64 0, .string (⟨#[]⟩ : ByteArray)]) ?_ 0 _ rfl; (with_reducible repeat (first | refine blk_drewN ?_ _ | refine blk_drew ?_ | refine blk_alloc ?_ _)); exact BK261.out) hb); have n3_ := Aside0.mk (below_step (by repeat (first | (with_reducible first | exact HB.out | apply below_alloc | apply pw_below_drewN | apply below_drew1 | refine below_set ?_ GE258.out | refine below_set ?_ GE259.out | refine below_set ?_ GE261.out) | exact HB.out)) hb); have n4_ := Aside0.mk (hbox); have n5_ := Aside0.mk ((by rw [hg]; exact (below_size (by repeat (first | (with_reducible first | exact HB.out | apply below_alloc | apply pw_below_drewN | apply below_drew1 | refine below_set ?_ GE258.out | refine below_set ?_ GE259.out | refine below_set ?_ GE261.out) | exact HB.out))) : w.heap.size ≤ gb262)); have n6_ := Aside0.mk ((by rw [hg]; exact (below_size (by repeat (first | (with_reducible first | exact HB.out | apply below_alloc | apply pw_below_drewN | apply below_drew1 | refine below_set ?_ GE258.out | refine below_set ?_ GE259.out | refine below_set ?_ GE261.out) | exact HB.out))) : w.heap.size ≤ gb262)); have n7_ := Aside0.mk ((by rw [hg]; exact Nat.ne_of_lt (blk_lt (g := gb258) (o := .cells #[.int .i64 a0_0, .int .u64 a0_1, .int .u64 a0_2, .slice A0_3 l0_3.length c0_3, .int .i64 a0_4, .slice (some ad260) l0_5.length c0_5] 46 (0, 0)) (by (with_reducible repeat (first | refine blk_drewN ?_ _ | refine blk_drew ?_ | refine blk_alloc ?_ _)); refine blk_far ?_ NB258_261.out _; (with_reducible repeat (first | refine blk_drewN ?_ _ | refine blk_drew ?_ | refine blk_alloc ?_ _)); refine blk_far ?_ NB258_261.out _; (with_reducible repeat (first | refine blk_drewN ?_ _ | refine blk_drew ?_ | refine blk_alloc ?_ _)); refine blk_far ?_ NB258_261.out _; (with_reducible repeat (first | refine blk_drewN ?_ _ | refine blk_drew ?_ | refine blk_alloc ?_ _)); exact BK258.out)) : gb258 ≠ gb262)); have n8_ := Aside0.mk ((by rw [hg]; exact Nat.ne_of_gt (blk_lt (g := gb258) (o := .cells #[.int .i64 a0_0, .int .u64 a0_1, .int .u64 a0_2, .slice A0_3 l0_3.length c0_3, .int .i64 a0_4, .slice (some ad260) l0_5.length c0_5] 46 (0, 0)) (by (with_reducible repeat (first | refine blk_drewN ?_ _ | refine blk_drew ?_ | refine blk_alloc ?_ _)); refine blk_far ?_ NB258_261.out _; (with_reducible repeat (first | refine blk_drewN ?_ _ | refine blk_drew ?_ | refine blk_alloc ?_ _)); refine blk_far ?_ NB258_261.out _; (with_reducible repeat (first | refine blk_drewN ?_ _ | refine blk_drew ?_ | refine blk_alloc ?_ _)); refine blk_far ?_ NB258_261.out _; (with_reducible repeat (first | refine blk_drewN ?_ _ | refine blk_drew ?_ | refine blk_alloc ?_ _)); exact BK258.out)) : gb262 ≠ gb258)); have n9_ := Aside0.mk ((by rw [hg]; exact Nat.ne_of_lt (blk_lt (g := gb259) (o := .cells #[.int .u64 x260000_2, .string x260001_2] 121 (0, 0)) (by (with_reducible repeat (first | refine blk_drewN ?_ _ | refine blk_drew ?_ | refine blk_alloc ?_ _)); refine blk_far ?_ NB259_261.out _; (with_reducible repeat (first | refine blk_drewN ?_ _ | refine blk_drew ?_ | refine blk_alloc ?_ _)); refine blk_far ?_ NB259_261.out _; (with_reducible repeat (first | refine blk_drewN ?_ _ | refine blk_drew ?_ | refine blk_alloc ?_ _)); refine blk_far ?_ NB259_261.out _; (with_reducible repeat (first | refine blk_drewN ?_ _ | refine blk_drew ?_ | refine blk_alloc ?_ _)); exact BK259.out)) : gb259 ≠ gb262)); have n10_ := Aside0.mk ((by rw [hg]; exact Nat.ne_of_gt (blk_lt (g := gb259) (o := .cells #[.int .u64 x260000_2, .string x260001_2] 121 (0, 0)) (by (with_reducible repeat (first | refine blk_drewN ?_ _ | refine blk_drew ?_ | refine blk_alloc ?_ _)); refine blk_far ?_ NB259_261.out _; (with_reducible repeat (first | refine blk_drewN ?_ _ | refine blk_drew ?_ | refine blk_alloc ?_ _)); refine blk_far ?_ NB259_261.out _; (with_reducible repeat (first | refine blk_drewN ?_ _ | refine blk_drew ?_ | refine blk_alloc ?_ _)); refine blk_far ?_ NB259_261.out _; (with_reducible repeat (first | refine blk_drewN ?_ _ | refine blk_drew ?_ | refine blk_alloc ?_ _)); exact BK259.out)) : gb262 ≠ gb259)); have n11_ := Aside0.mk ((by rw [hg]; exact Nat.ne_of_lt (blk_lt (g := gb261) (o := .cells #[.int .u64 ((rd_T60 l0_5 x40_2).f0), .int .u64 ((rd_T60 l0_5 x40_2).f1), .string ((rd_T60 l0_5 x40_2).f2)] 60 (0, 0)) (by (with_reducible repeat (first | refine blk_drewN ?_ _ | refine blk_drew ?_ | refine blk_alloc ?_ _)); refine blk_put (cs := #[.int .u64 ((rd_T60 l0_5 x40_2).f0), .int .u64 ((rd_T60 l0_5 x40_2).f1), .string (⟨#[]⟩ : ByteArray)]) ?_ 2 _ rfl; (with_reducible repeat (first | refine blk_drewN ?_ _ | refine blk_drew ?_ | refine blk_alloc ?_ _)); refine blk_put (cs := #[.int .u64 ((rd_T60 l0_5 x40_2).f0), .int .u64 0, .string (⟨#[]⟩ : ByteArray)]) ?_ 1 _ rfl; (with_reducible repeat (first | refine blk_drewN ?_ _ | refine blk_drew ?_ | refine blk_alloc ?_ _)); refine blk_put (cs := #[.int .u64 0, .int .u64 0, .string (⟨#[]⟩ : ByteArray)]) ?_ 0 _ rfl; (with_reducible repeat (first | refine blk_drewN ?_ _ | refine blk_drew ?_ | refine blk_alloc ?_ _)); exact BK261.out)) : gb261 ≠ gb262)); have n12_ := Aside0.mk ((by rw [hg]; exact Nat.ne_of_gt (blk_lt (g := gb261) (o := .cells #[.int .u64 ((rd_T60 l0_5 x40_2).f0), .int .u64 ((rd_T60 l0_5 x40_2).f1), .string ((rd_T60 l0_5 x40_2).f2)] 60 (0, 0)) (by (with_reducible repeat (first | refine blk_drewN ?_ _ | refine blk_drew ?_ | refine blk_alloc ?_ _)); refine blk_put (cs := #[.int .u64 ((rd_T60 l0_5 x40_2).f0), .int .u64 ((rd_T60 l0_5 x40_2).f1), .string (⟨#[]⟩ : ByteArray)]) ?_ 2 _ rfl; (with_reducible repeat (first | refine blk_drewN ?_ _ | refine blk_drew ?_ | refine blk_alloc ?_ _)); refine blk_put (cs := #[.int .u64 ((rd_T60 l0_5 x40_2).f0), .int .u64 0, .string (⟨#[]⟩ : ByteArray)]) ?_ 1 _ rfl; (with_reducible repeat (first | refine blk_drewN ?_ _ | refine blk_drew ?_ | refine blk_alloc ?_ _)); refine blk_put (cs := #[.int .u64 0, .int .u64 0, .string (⟨#[]⟩ : ByteArray)]) ?_ 0 _ rfl; (with_reducible repeat (first | refine blk_drewN ?_ _ | refine blk_drew ?_ | refine blk_alloc ?_ _)); exact BK261.out)) : gb262 ≠ gb261)); clear BK258; clear BK259; clear BK261; clear HB; have BK258 := n0_; have BK259 := n1_; have BK261 := n2_; have HB := n3_; have BK262 := n4_; have GW262 := n5_; have GE262 := n6_; have NB258_262 := n7_; have NB262_258 := n8_; have NB259_262 := n9_; have NB262_259 := n10_; have NB261_262 := n11_; have NB262_261 := n12_; clear n0_ n1_ n2_ n3_ n4_ n5_ n6_ n7_ n8_ n9_ n10_ n11_ n12_; clear hb hbox hg; have hnb39 := NB262_258.out; have hnc39 := NB258_262.out; have hnb40 := NB262_259.out; have hnc40 := NB259_262.out; have hnb41 := NB262_261.out; have hnc41 := NB261_262.out; have hcz42_0 : w38.cell? ⟨gb262, 0, none⟩ = some (.int .u64 0) := (blk_cell BK262.out 0).trans rfl; have hcz42_1 : w38.cell? ⟨gb262, 1, none⟩ = some (.string (⟨#[]⟩ : ByteArray)) := (blk_cell BK262.out 1).trans rfl; have hfz42_0 := blk_frozen BK262.out 0; have hfz42_1 := blk_frozen BK262.out 1; have hcz43_0 : w38.cell? ⟨gb261, 0, none⟩ = some (.int .u64 ((rd_T60 l0_5 x40_2).f0)) := (blk_cell BK261.out 0).trans rfl; have hcz43_1 : w38.cell? ⟨gb261, 1, none⟩ = some (.int .u64 ((rd_T60 l0_5 x40_2).f1)) := (blk_cell BK261.out 1).trans rfl; have hcz43_2 : w38.cell? ⟨gb261, 2, none⟩ = some (.string ((rd_T60 l0_5 x40_2).f2)) := (blk_cell BK261.out 2).trans rfl; have hfz43_0 := blk_frozen BK261.out 0; have hfz43_1 := blk_frozen BK261.out 1; have hfz43_2 := blk_frozen BK261.out 2))
                      go_ret
                      exact ⟨by first | rfl | (simp [errW_none, errW_some] <;> rfl) | (simp [*, errW_none, errW_some] <;> rfl), by repeat (first | (with_reducible first | exact HB.out | apply below_alloc | apply pw_below_drewN | apply below_drew1 | refine below_set ?_ GE258.out | refine below_set ?_ GE259.out | refine below_set ?_ GE261.out | refine below_set ?_ GE262.out) | exact HB.out)⟩
                    · rw [if_neg c33] at H
                      have c33b0 : decide (((rd_T60 l0_5 x40_2).f1) ≤ ((rd_T60 l0_5 x40_2).f0)) = false := decide_eq_false c33
                      clear c33
                      by_cases c44 : ((rd_T60 l0_5 x40_2).f1) > 4611686018427387903
                      · rw [if_pos c44] at H
                        have c44b0 : decide (4611686018427387903 < ((rd_T60 l0_5 x40_2).f1)) = true := decide_eq_true c44
                        clear c44
                        obtain rfl := Option.some.inj H
                        have p260 : 0 ≤ (x40_2 : Int) := of_decide_eq_true (by first | (with_reducible assumption) | assumption)
                        have q260 : x40_2 < (l0_5.length : Int) := of_decide_eq_true (by first | (with_reducible assumption) | assumption)
                        obtain ⟨ad260, e260, hx260_0, hx260_1, hx260_2⟩ := at_T60 HR0_5.out x40_2 p260 q260
                        cases e260
                        replace hx260_0 := (HB.out.cell (World.block_lt_of_cell? w _ hx260_0)).trans hx260_0
                        replace hx260_1 := (HB.out.cell (World.block_lt_of_cell? w _ hx260_1)).trans hx260_1
                        replace hx260_2 := (HB.out.cell (World.block_lt_of_cell? w _ hx260_2)).trans hx260_2
                        replace p260 := eq_true p260
                        replace q260 := eq_true q260
                        go_wp2_with (first | ((with_reducible refine gate_dst (N := 5) rfl ?_); (try (refine gate_guard (by rfl) ?_; dsimp only)); refine box_event ?hg (N := 5) ?hd (cs := #[.int .u64 0, .int .u64 0, .string (⟨#[]⟩ : ByteArray)]) (t := 60) ?hr ?_; (case hd => rfl); (case hg => rfl); (case hr => first | (go_simp; done) | (go_simp; rfl)); intro gb261 hg w45 hbox hb; have n0_ := Aside0.mk (blk_below (g := gb258) (o := .cells #[.int .i64 a0_0, .int .u64 a0_1, .int .u64 a0_2, .slice A0_3 l0_3.length c0_3, .int .i64 a0_4, .slice (some ad260) l0_5.length c0_5] 46 (0, 0)) (by (with_reducible repeat (first | refine blk_drewN ?_ _ | refine blk_drew ?_ | refine blk_alloc ?_ _)); exact BK258.out) hb); have n1_ := Aside0.mk (blk_below (g := gb259) (o := .cells #[.int .u64 x260000_2, .string x260001_2] 121 (0, 0)) (by (with_reducible repeat (first | refine blk_drewN ?_ _ | refine blk_drew ?_ | refine blk_alloc ?_ _)); exact BK259.out) hb); have n2_ := Aside0.mk (below_step (by repeat (first | (with_reducible first | exact HB.out | apply below_alloc | apply pw_below_drewN | apply below_drew1 | refine below_set ?_ GE258.out | refine below_set ?_ GE259.out) | exact HB.out)) hb); have n3_ := Aside0.mk (hbox); have n4_ := Aside0.mk ((by rw [hg]; exact (below_size (by repeat (first | (with_reducible first | exact HB.out | apply below_alloc | apply pw_below_drewN | apply below_drew1 | refine below_set ?_ GE258.out | refine below_set ?_ GE259.out) | exact HB.out))) : w.heap.size ≤ gb261)); have n5_ := Aside0.mk ((by rw [hg]; exact (below_size (by repeat (first | (with_reducible first | exact HB.out | apply below_alloc | apply pw_below_drewN | apply below_drew1 | refine below_set ?_ GE258.out | refine below_set ?_ GE259.out) | exact HB.out))) : w.heap.size ≤ gb261)); have n6_ := Aside0.mk ((by rw [hg]; exact Nat.ne_of_lt (blk_lt (g := gb258) (o := .cells #[.int .i64 a0_0, .int .u64 a0_1, .int .u64 a0_2, .slice A0_3 l0_3.length c0_3, .int .i64 a0_4, .slice (some ad260) l0_5.length c0_5] 46 (0, 0)) (by (with_reducible repeat (first | refine blk_drewN ?_ _ | refine blk_drew ?_ | refine blk_alloc ?_ _)); exact BK258.out)) : gb258 ≠ gb261)); have n7_ := Aside0.mk ((by rw [hg]; exact Nat.ne_of_gt (blk_lt (g := gb258) (o := .cells #[.int .i64 a0_0, .int .u64 a0_1, .int .u64 a0_2, .slice A0_3 l0_3.length c0_3, .int .i64 a0_4, .slice (some ad260) l0_5.length c0_5] 46 (0, 0)) (by (with_reducible repeat (first | refine blk_drewN ?_ _ | refine blk_drew ?_ | refine blk_alloc ?_ _)); exact BK258.out)) : gb261 ≠ gb258)); have n8_ := Aside0.mk ((by rw [hg]; exact Nat.ne_of_lt (blk_lt (g := gb259) (o := .cells #[.int .u64 x260000_2, .string x260001_2] 121 (0, 0)) (by (with_reducible repeat (first | refine blk_drewN ?_ _ | refine blk_drew ?_ | refine blk_alloc ?_ _)); exact BK259.out)) : gb259 ≠ gb261)); have n9_ := Aside0.mk ((by rw [hg]; exact Nat.ne_of_gt (blk_lt (g := gb259) (o := .cells #[.int .u64 x260000_2, .string x260001_2] 121 (0, 0)) (by (with_reducible repeat (first | refine blk_drewN ?_ _ | refine blk_drew ?_ | refine blk_alloc ?_ _)); exact BK259.out)) : gb261 ≠ gb259)); clear BK258; clear BK259; clear HB; have BK258 := n0_; have BK259 := n1_; have HB := n2_; have BK261 := n3_; have GW261 := n4_; have GE261 := n5_; have NB258_261 := n6_; have NB261_258 := n7_; have NB259_261 := n8_; have NB261_259 := n9_; clear n0_ n1_ n2_ n3_ n4_ n5_ n6_ n7_ n8_ n9_; clear hb hbox hg; have hnb46 := NB261_258.out; have hnc46 := NB258_261.out; have hnb47 := NB261_259.out; have hnc47 := NB259_261.out; have hcz48_0 : w45.cell? ⟨gb261, 0, none⟩ = some (.int .u64 0) := (blk_cell BK261.out 0).trans rfl; have hcz48_1 : w45.cell? ⟨gb261, 1, none⟩ = some (.int .u64 0) := (blk_cell BK261.out 1).trans rfl; have hcz48_2 : w45.cell? ⟨gb261, 2, none⟩ = some (.string (⟨#[]⟩ : ByteArray)) := (blk_cell BK261.out 2).trans rfl; have hfz48_0 := blk_frozen BK261.out 0; have hfz48_1 := blk_frozen BK261.out 1; have hfz48_2 := blk_frozen BK261.out 2) | ((with_reducible refine gate_dst (N := 6) rfl ?_); (try (refine gate_guard (by rfl) ?_; dsimp only)); refine box_event ?hg (N := 6) ?hd (cs := #[.int .u64 0, .string (⟨#[]⟩ : ByteArray)]) (t := 121) ?hr ?_; (case hd => rfl); (case hg => rfl); (case hr => first | (go_simp; done) | (go_simp; rfl)); intro gb262 hg w49 hbox hb; have n0_ := Aside0.mk (blk_below (g := gb258) (o := .cells #[.int .i64 a0_0, .int .u64 a0_1, .int .u64 a0_2, .slice A0_3 l0_3.length c0_3, .int .i64 a0_4, .slice (some ad260) l0_5.length c0_5] 46 (0, 0)) (by (with_reducible repeat (first | refine blk_drewN ?_ _ | refine blk_drew ?_ | refine blk_alloc ?_ _)); refine blk_far ?_ NB258_261.out _; (with_reducible repeat (first | refine blk_drewN ?_ _ | refine blk_drew ?_ | refine blk_alloc ?_ _)); refine blk_far ?_ NB258_261.out _; (with_reducible repeat (first | refine blk_drewN ?_ _ | refine blk_drew ?_ | refine blk_alloc ?_ _)); refine blk_far ?_ NB258_261.out _; (with_reducible repeat (first | refine blk_drewN ?_ _ | refine blk_drew ?_ | refine blk_alloc ?_ _)); exact BK258.out) hb); have n1_ := Aside0.mk (blk_below (g := gb259) (o := .cells #[.int .u64 x260000_2, .string x260001_2] 121 (0, 0)) (by (with_reducible repeat (first | refine blk_drewN ?_ _ | refine blk_drew ?_ | refine blk_alloc ?_ _)); refine blk_far ?_ NB259_261.out _; (with_reducible repeat (first | refine blk_drewN ?_ _ | refine blk_drew ?_ | refine blk_alloc ?_ _)); refine blk_far ?_ NB259_261.out _; (with_reducible repeat (first | refine blk_drewN ?_ _ | refine blk_drew ?_ | refine blk_alloc ?_ _)); refine blk_far ?_ NB259_261.out _; (with_reducible repeat (first | refine blk_drewN ?_ _ | refine blk_drew ?_ | refine blk_alloc ?_ _)); exact BK259.out) hb); have n2_ := Aside0.mk (blk_below (g := gb261) (o := .cells #[.int .u64 ((rd_T60 l0_5 x40_2).f0), .int .u64 ((rd_T60 l0_5 x40_2).f1), .string ((rd_T60 l0_5 x40_2).f2)] 60 (0, 0)) (by (with_reducible repeat (first | refine blk_drewN ?_ _ | refine blk_drew ?_ | refine blk_alloc ?_ _)); refine blk_put (cs := #[.int .u64 ((rd_T60 l0_5 x40_2).f0), .int .u64 ((rd_T60 l0_5 x40_2).f1), .string (⟨#[]⟩ : ByteArray)]) ?_ 2 _ rfl; (with_reducible repeat (first | refine blk_drewN ?_ _ | refine blk_drew ?_ | refine blk_alloc ?_ _)); refine blk_put (cs := #[.int .u64 ((rd_T60 l0_5 x40_2).f0), .int .u64 0, .string (⟨#[]⟩ : ByteArray)]) ?_ 1 _ rfl; (with_reducible repeat (first | refine blk_drewN ?_ _ | refine blk_drew ?_ | refine blk_alloc ?_ _)); refine blk_put (cs := #[.int .u64 0, .int .u64 0, .string (⟨#[]⟩ : ByteArray)]) ?_ 0 _ rfl; (with_reducible repeat (first | refine blk_drewN ?_ _ | refine blk_drew ?_ | refine blk_alloc ?_ _)); exact BK261.out) hb); have n3_ := Aside0.mk (below_step (by repeat (first | (with_reducible first | exact HB.out | apply below_alloc | apply pw_below_drewN | apply below_drew1 | refine below_set ?_ GE258.out | refine below_set ?_ GE259.out | refine below_set ?_ GE261.out) | exact HB.out)) hb); have n4_ := Aside0.mk (hbox); have n5_ := Aside0.mk ((by rw [hg]; exact (below_size (by repeat (first | (with_reducible first | exact HB.out | apply below_alloc | apply pw_below_drewN | apply below_drew1 | refine below_set ?_ GE258.out | refine below_set ?_ GE259.out | refine below_set ?_ GE261.out) | exact HB.out))) : w.heap.size ≤ gb262)); have n6_ := Aside0.mk ((by rw [hg]; exact (below_size (by repeat (first | (with_reducible first | exact HB.out | apply below_alloc | apply pw_below_drewN | apply below_drew1 | refine below_set ?_ GE258.out | refine below_set ?_ GE259.out | refine below_set ?_ GE261.out) | exact HB.out))) : w.heap.size ≤ gb262)); have n7_ := Aside0.mk ((by rw [hg]; exact Nat.ne_of_lt (blk_lt (g := gb258) (o := .cells #[.int .i64 a0_0, .int .u64 a0_1, .int .u64 a0_2, .slice A0_3 l0_3.length c0_3, .int .i64 a0_4, .slice (some ad260) l0_5.length c0_5] 46 (0, 0)) (by (with_reducible repeat (first | refine blk_drewN ?_ _ | refine blk_drew ?_ | refine blk_alloc ?_ _)); refine blk_far ?_ NB258_261.out _; (with_reducible repeat (first | refine blk_drewN ?_ _ | refine blk_drew ?_ | refine blk_alloc ?_ _)); refine blk_far ?_ NB258_261.out _; (with_reducible repeat (first | refine blk_drewN ?_ _ | refine blk_drew ?_ | refine blk_alloc ?_ _)); refine blk_far ?_ NB258_261.out _; (with_reducible repeat (first | refine blk_drewN ?_ _ | refine blk_drew ?_ | refine blk_alloc ?_ _)); exact BK258.out)) : gb258 ≠ gb262)); have n8_ := Aside0.mk ((by rw [hg]; exact Nat.ne_of_gt (blk_lt (g := gb258) (o := .cells #[.int .i64 a0_0, .int .u64 a0_1, .int .u64 a0_2, .slice A0_3 l0_3.length c0_3, .int .i64 a0_4, .slice (some ad260) l0_5.length c0_5] 46 (0, 0)) (by (with_reducible repeat (first | refine blk_drewN ?_ _ | refine blk_drew ?_ | refine blk_alloc ?_ _)); refine blk_far ?_ NB258_261.out _; (with_reducible repeat (first | refine blk_drewN ?_ _ | refine blk_drew ?_ | refine blk_alloc ?_ _)); refine blk_far ?_ NB258_261.out _; (with_reducible repeat (first | refine blk_drewN ?_ _ | refine blk_drew ?_ | refine blk_alloc ?_ _)); refine blk_far ?_ NB258_261.out _; (with_reducible repeat (first | refine blk_drewN ?_ _ | refine blk_drew ?_ | refine blk_alloc ?_ _)); exact BK258.out)) : gb262 ≠ gb258)); have n9_ := Aside0.mk ((by rw [hg]; exact Nat.ne_of_lt (blk_lt (g := gb259) (o := .cells #[.int .u64 x260000_2, .string x260001_2] 121 (0, 0)) (by (with_reducible repeat (first | refine blk_drewN ?_ _ | refine blk_drew ?_ | refine blk_alloc ?_ _)); refine blk_far ?_ NB259_261.out _; (with_reducible repeat (first | refine blk_drewN ?_ _ | refine blk_drew ?_ | refine blk_alloc ?_ _)); refine blk_far ?_ NB259_261.out _; (with_reducible repeat (first | refine blk_drewN ?_ _ | refine blk_drew ?_ | refine blk_alloc ?_ _)); refine blk_far ?_ NB259_261.out _; (with_reducible repeat (first | refine blk_drewN ?_ _ | refine blk_drew ?_ | refine blk_alloc ?_ _)); exact BK259.out)) : gb259 ≠ gb262)); have n10_ := Aside0.mk ((by rw [hg]; exact Nat.ne_of_gt (blk_lt (g := gb259) (o := .cells #[.int .u64 x260000_2, .string x260001_2] 121 (0, 0)) (by (with_reducible repeat (first | refine blk_drewN ?_ _ | refine blk_drew ?_ | refine blk_alloc ?_ _)); refine blk_far ?_ NB259_261.out _; (with_reducible repeat (first | refine blk_drewN ?_ _ | refine blk_drew ?_ | refine blk_alloc ?_ _)); refine blk_far ?_ NB259_261.out _; (with_reducible repeat (first | refine blk_drewN ?_ _ | refine blk_drew ?_ | refine blk_alloc ?_ _)); refine blk_far ?_ NB259_261.out _; (with_reducible repeat (first | refine blk_drewN ?_ _ | refine blk_drew ?_ | refine blk_alloc ?_ _)); exact BK259.out)) : gb262 ≠ gb259)); have n11_ := Aside0.mk ((by rw [hg]; exact Nat.ne_of_lt (blk_lt (g := gb261) (o := .cells #[.int .u64 ((rd_T60 l0_5 x40_2).f0), .int .u64 ((rd_T60 l0_5 x40_2).f1), .string ((rd_T60 l0_5 x40_2).f2)] 60 (0, 0)) (by (with_reducible repeat (first | refine blk_drewN ?_ _ | refine blk_drew ?_ | refine blk_alloc ?_ _)); refine blk_put (cs := #[.int .u64 ((rd_T60 l0_5 x40_2).f0), .int .u64 ((rd_T60 l0_5 x40_2).f1), .string (⟨#[]⟩ : ByteArray)]) ?_ 2 _ rfl; (with_reducible repeat (first | refine blk_drewN ?_ _ | refine blk_drew ?_ | refine blk_alloc ?_ _)); refine blk_put (cs := #[.int .u64 ((rd_T60 l0_5 x40_2).f0), .int .u64 0, .string (⟨#[]⟩ : ByteArray)]) ?_ 1 _ rfl; (with_reducible repeat (first | refine blk_drewN ?_ _ | refine blk_drew ?_ | refine blk_alloc ?_ _)); refine blk_put (cs := #[.int .u64 0, .int .u64 0, .string (⟨#[]⟩ : ByteArray)]) ?_ 0 _ rfl; (with_reducible repeat (first | refine blk_drewN ?_ _ | refine blk_drew ?_ | refine blk_alloc ?_ _)); exact BK261.out)) : gb261 ≠ gb262)); have n12_ := Aside0.mk ((by rw [hg]; exact Nat.ne_of_gt (blk_lt (g := gb261) (o := .cells #[.int .u64 ((rd_T60 l0_5 x40_2).f0), .int .u64 ((rd_T60 l0_5 x40_2).f1), .string ((rd_T60 l0_5 x40_2).f2)] 60 (0, 0)) (by (with_reducible repeat (first | refine blk_drewN ?_ _ | refine blk_drew ?_ | refine blk_alloc ?_ _)); refine blk_put (cs := #[.int .u64 ((rd_T60 l0_5 x40_2).f0), .int .u64 ((rd_T60 l0_5 x40_2).f1), .string (⟨#[]⟩ : ByteArray)]) ?_ 2 _ rfl; (with_reducible repeat (first | refine blk_drewN ?_ _ | refine blk_drew ?_ | refine blk_alloc ?_ _)); refine blk_put (cs := #[.int .u64 ((rd_T60 l0_5 x40_2).f0), .int .u64 0, .string (⟨#[]⟩ : ByteArray)]) ?_ 1 _ rfl; (with_reducible repeat (first | refine blk_drewN ?_ _ | refine blk_drew ?_ | refine blk_alloc ?_ _)); refine blk_put (cs := #[.int .u64 0, .int .u64 0, .string (⟨#[]⟩ : ByteArray)]) ?_ 0 _ rfl; (with_reducible repeat (first | refine blk_drewN ?_ _ | refine blk_drew ?_ | refine blk_alloc ?_ _)); exact BK261.out)) : gb262 ≠ gb261)); clear BK258; clear BK259; clear BK261; clear HB; have BK258 := n0_; have BK259 := n1_; have BK261 := n2_; have HB := n3_; have BK262 := n4_; have GW262 := n5_; have GE262 := n6_; have NB258_262 := n7_; have NB262_258 := n8_; have NB259_262 := n9_; have NB262_259 := n10_; have NB261_262 := n11_; have NB262_261 := n12_; clear n0_ n1_ n2_ n3_ n4_ n5_ n6_ n7_ n8_ n9_ n10_ n11_ n12_; clear hb hbox hg; have hnb50 := NB262_258.out; have hnc50 := NB258_262.out; have hnb51 := NB262_259.out; have hnc51 := NB259_262.out; have hnb52 := NB262_261.out; have hnc52 := NB261_262.out; have hcz53_0 : w49.cell? ⟨gb262, 0, none⟩ = some (.int .u64 0) := (blk_cell BK262.out 0).trans rfl; have hcz53_1 : w49.cell? ⟨gb262, 1, none⟩ = some (.string (⟨#[]⟩ : ByteArray)) := (blk_cell BK262.out 1).trans rfl; have hfz53_0 := blk_frozen BK262.out 0; have hfz53_1 := blk_frozen BK262.out 1; have hcz54_0 : w49.cell? ⟨gb261, 0, none⟩ = some (.int .u64 ((rd_T60 l0_5 x40_2).f0)) := (blk_cell BK261.out 0).trans rfl; have hcz54_1 : w49.cell? ⟨gb261, 1, none⟩ = some (.int .u64 ((rd_T60 l0_5 x40_2).f1)) := (blk_cell BK261.out 1).trans rfl; have hcz54_2 : w49.cell? ⟨gb261, 2, none⟩ = some (.string ((rd_T60 l0_5 x40_2).f2)) := (blk_cell BK261.out 2).trans rfl; have hfz54_0 := blk_frozen BK261.out 0; have hfz54_1 := blk_frozen BK261.out 1; have hfz54_2 := blk_frozen BK261.out 2))
                        go_ret
                        exact ⟨by first | rfl | (simp [errW_none, errW_some] <;> rfl) | (simp [*, errW_none, errW_some] <;> rfl), by repeat (first | (with_reducible first | exact HB.out | apply below_alloc | apply pw_below_drewN | apply below_drew1 | refine below_set ?_ GE258.out | refine below_set ?_ GE259.out | refine below_set ?_ GE261.out | refine below_set ?_ GE262.out) | exact HB.out)⟩
                      · rw [if_neg c44] at H
                        have c44b0 : decide (4611686018427387903 < ((rd_T60 l0_5 x40_2).f1)) = false := decide_eq_false c44
                        clear c44
                        replace H := Option.bind_eq_some_iff.mp H
                        obtain ⟨t263, A550, H⟩ := H
                        replace H : (if t263 = true then ((image_place_before.f x260000_2 x260001_2 ((rd_T60 l0_5 x40_2).f0) ((rd_T60 l0_5 x40_2).f2)).bind fun t264 => (if t264 = true then (image_goodDelta.l0 k2 l0_5 (l0_5.length : Int) (wrap64 (x40_2 + 1)) ((rd_T60 l0_5 x40_2).f0) ((rd_T60 l0_5 x40_2).f2)) else (some false))) else (some false)) = some r := H
                        have A55 := Aside0.mk A550
                        clear A550
                        by_cases c56 : t263 = true
                        · subst c56
                          have H1 : ((image_place_before.f x260000_2 x260001_2 ((rd_T60 l0_5 x40_2).f0) ((rd_T60 l0_5 x40_2).f2)).bind fun t264 => (if t264 = true then (image_goodDelta.l0 k2 l0_5 (l0_5.length : Int) (wrap64 (x40_2 + 1)) ((rd_T60 l0_5 x40_2).f0) ((rd_T60 l0_5 x40_2).f2)) else (some false))) = some r := by rw [if_pos rfl] at H; exact H
                          clear H
                          have H := H1
                          clear H1
                          replace H := Option.bind_eq_some_iff.mp H
                          obtain ⟨t264, A570, H⟩ := H
                          replace H : (if t264 = true then (image_goodDelta.l0 k2 l0_5 (l0_5.length : Int) (wrap64 (x40_2 + 1)) ((rd_T60 l0_5 x40_2).f0) ((rd_T60 l0_5 x40_2).f2)) else (some false)) = some r := H
                          have A57 := Aside0.mk A570
                          clear A570
                          by_cases c58 : t264 = true
                          · subst c58
                            have H1 : (image_goodDelta.l0 k2 l0_5 (l0_5.length : Int) (wrap64 (x40_2 + 1)) ((rd_T60 l0_5 x40_2).f0) ((rd_T60 l0_5 x40_2).f2)) = some r := by rw [if_pos rfl] at H; exact H
                            clear H
                            have H := H1
                            clear H1
                            have H' := Aside0.mk H
                            clear H
                            have p260 : 0 ≤ (x40_2 : Int) := of_decide_eq_true (by first | (with_reducible assumption) | assumption)
                            have q260 : x40_2 < (l0_5.length : Int) := of_decide_eq_true (by first | (with_reducible assumption) | assumption)
                            obtain ⟨ad260, e260, hx260_0, hx260_1, hx260_2⟩ := at_T60 HR0_5.out x40_2 p260 q260
                            cases e260
                            replace hx260_0 := (HB.out.cell (World.block_lt_of_cell? w _ hx260_0)).trans hx260_0
                            replace hx260_1 := (HB.out.cell (World.block_lt_of_cell? w _ hx260_1)).trans hx260_1
                            replace hx260_2 := (HB.out.cell (World.block_lt_of_cell? w _ hx260_2)).trans hx260_2
                            replace p260 := eq_true p260
                            replace q260 := eq_true q260
                            go_wp2_with (first | ((with_reducible refine gate_dst (N := 5) rfl ?_); (try (refine gate_guard (by rfl) ?_; dsimp only)); refine box_event ?hg (N := 5) ?hd (cs := #[.int .u64 0, .int .u64 0, .string (⟨#[]⟩ : ByteArray)]) (t := 60) ?hr ?_; (case hd => rfl); (case hg => rfl); (case hr => first | (go_simp; done) | (go_simp; rfl)); intro gb261 hg w59 hbox hb; have n0_ := Aside0.mk (blk_below (g := gb258) (o := .cells #[.int .i64 a0_0, .int .u64 a0_1, .int .u64 a0_2, .slice A0_3 l0_3.length c0_3, .int .i64 a0_4, .slice (some ad260) l0_5.length c0_5] 46 (0, 0)) (by (with_reducible repeat (first | refine blk_drewN ?_ _ | refine blk_drew ?_ | refine blk_alloc ?_ _)); exact BK258.out) hb); have n1_ := Aside0.mk (blk_below (g := gb259) (o := .cells #[.int .u64 x260000_2, .string x260001_2] 121 (0, 0)) (by (with_reducible repeat (first | refine blk_drewN ?_ _ | refine blk_drew ?_ | refine blk_alloc ?_ _)); exact BK259.out) hb); have n2_ := Aside0.mk (below_step (by repeat (first | (with_reducible first | exact HB.out | apply below_alloc | apply pw_below_drewN | apply below_drew1 | refine below_set ?_ GE258.out | refine below_set ?_ GE259.out) | exact HB.out)) hb); have n3_ := Aside0.mk (hbox); have n4_ := Aside0.mk ((by rw [hg]; exact (below_size (by repeat (first | (with_reducible first | exact HB.out | apply below_alloc | apply pw_below_drewN | apply below_drew1 | refine below_set ?_ GE258.out | refine below_set ?_ GE259.out) | exact HB.out))) : w.heap.size ≤ gb261)); have n5_ := Aside0.mk ((by rw [hg]; exact (below_size (by repeat (first | (with_reducible first | exact HB.out | apply below_alloc | apply pw_below_drewN | apply below_drew1 | refine below_set ?_ GE258.out | refine below_set ?_ GE259.out) | exact HB.out))) : w.heap.size ≤ gb261)); have n6_ := Aside0.mk ((by rw [hg]; exact Nat.ne_of_lt (blk_lt (g := gb258) (o := .cells #[.int .i64 a0_0, .int .u64 a0_1, .int .u64 a0_2, .slice A0_3 l0_3.length c0_3, .int .i64 a0_4, .slice (some ad260) l0_5.length c0_5] 46 (0, 0)) (by (with_reducible repeat (first | refine blk_drewN ?_ _ | refine blk_drew ?_ | refine blk_alloc ?_ _)); exact BK258.out)) : gb258 ≠ gb261)); have n7_ := Aside0.mk ((by rw [hg]; exact Nat.ne_of_gt (blk_lt (g := gb258) (o := .cells #[.int .i64 a0_0, .int .u64 a0_1, .int .u64 a0_2, .slice A0_3 l0_3.length c0_3, .int .i64 a0_4, .slice (some ad260) l0_5.length c0_5] 46 (0, 0)) (by (with_reducible repeat (first | refine blk_drewN ?_ _ | refine blk_drew ?_ | refine blk_alloc ?_ _)); exact BK258.out)) : gb261 ≠ gb258)); have n8_ := Aside0.mk ((by rw [hg]; exact Nat.ne_of_lt (blk_lt (g := gb259) (o := .cells #[.int .u64 x260000_2, .string x260001_2] 121 (0, 0)) (by (with_reducible repeat (first | refine blk_drewN ?_ _ | refine blk_drew ?_ | refine blk_alloc ?_ _)); exact BK259.out)) : gb259 ≠ gb261)); have n9_ := Aside0.mk ((by rw [hg]; exact Nat.ne_of_gt (blk_lt (g := gb259) (o := .cells #[.int .u64 x260000_2, .string x260001_2] 121 (0, 0)) (by (with_reducible repeat (first | refine blk_drewN ?_ _ | refine blk_drew ?_ | refine blk_alloc ?_ _)); exact BK259.out)) : gb261 ≠ gb259)); clear BK258; clear BK259; clear HB; have BK258 := n0_; have BK259 := n1_; have HB := n2_; have BK261 := n3_; have GW261 := n4_; have GE261 := n5_; have NB258_261 := n6_; have NB261_258 := n7_; have NB259_261 := n8_; have NB261_259 := n9_; clear n0_ n1_ n2_ n3_ n4_ n5_ n6_ n7_ n8_ n9_; clear hb hbox hg; have hnb60 := NB261_258.out; have hnc60 := NB258_261.out; have hnb61 := NB261_259.out; have hnc61 := NB259_261.out; have hcz62_0 : w59.cell? ⟨gb261, 0, none⟩ = some (.int .u64 0) := (blk_cell BK261.out 0).trans rfl; have hcz62_1 : w59.cell? ⟨gb261, 1, none⟩ = some (.int .u64 0) := (blk_cell BK261.out 1).trans rfl; have hcz62_2 : w59.cell? ⟨gb261, 2, none⟩ = some (.string (⟨#[]⟩ : ByteArray)) := (blk_cell BK261.out 2).trans rfl; have hfz62_0 := blk_frozen BK261.out 0; have hfz62_1 := blk_frozen BK261.out 1; have hfz62_2 := blk_frozen BK261.out 2) | ((with_reducible refine gate_dst (N := 6) rfl ?_); (try (refine gate_guard (by rfl) ?_; dsimp only)); refine box_event ?hg (N := 6) ?hd (cs := #[.int .u64 0, .string (⟨#[]⟩ : ByteArray)]) (t := 121) ?hr ?_; (case hd => rfl); (case hg => rfl); (case hr => first | (go_simp; done) | (go_simp; rfl)); intro gb262 hg w63 hbox hb; have n0_ := Aside0.mk (blk_below (g := gb258) (o := .cells #[.int .i64 a0_0, .int .u64 a0_1, .int .u64 a0_2, .slice A0_3 l0_3.length c0_3, .int .i64 a0_4, .slice (some ad260) l0_5.length c0_5] 46 (0, 0)) (by (with_reducible repeat (first | refine blk_drewN ?_ _ | refine blk_drew ?_ | refine blk_alloc ?_ _)); refine blk_far ?_ NB258_261.out _; (with_reducible repeat (first | refine blk_drewN ?_ _ | refine blk_drew ?_ | refine blk_alloc ?_ _)); refine blk_far ?_ NB258_261.out _; (with_reducible repeat (first | refine blk_drewN ?_ _ | refine blk_drew ?_ | refine blk_alloc ?_ _)); refine blk_far ?_ NB258_261.out _; (with_reducible repeat (first | refine blk_drewN ?_ _ | refine blk_drew ?_ | refine blk_alloc ?_ _)); exact BK258.out) hb); have n1_ := Aside0.mk (blk_below (g := gb259) (o := .cells #[.int .u64 x260000_2, .string x260001_2] 121 (0, 0)) (by (with_reducible repeat (first | refine blk_drewN ?_ _ | refine blk_drew ?_ | refine blk_alloc ?_ _)); refine blk_far ?_ NB259_261.out _; (with_reducible repeat (first | refine blk_drewN ?_ _ | refine blk_drew ?_ | refine blk_alloc ?_ _)); refine blk_far ?_ NB259_261.out _; (with_reducible repeat (first | refine blk_drewN ?_ _ | refine blk_drew ?_ | refine blk_alloc ?_ _)); refine blk_far ?_ NB259_261.out _; (with_reducible repeat (first | refine blk_drewN ?_ _ | refine blk_drew ?_ | refine blk_alloc ?_ _)); exact BK259.out) hb); have n2_ := Aside0.mk (blk_below (g := gb261) (o := .cells #[.int .u64 ((rd_T60 l0_5 x40_2).f0), .int .u64 ((rd_T60 l0_5 x40_2).f1), .string ((rd_T60 l0_5 x40_2).f2)] 60 (0, 0)) (by (with_reducible repeat (first | refine blk_drewN ?_ _ | refine blk_drew ?_ | refine blk_alloc ?_ _)); refine blk_put (cs := #[.int .u64 ((rd_T60 l0_5 x40_2).f0), .int .u64 ((rd_T60 l0_5 x40_2).f1), .string (⟨#[]⟩ : ByteArray)]) ?_ 2 _ rfl; (with_reducible repeat (first | refine blk_drewN ?_ _ | refine blk_drew ?_ | refine blk_alloc ?_ _)); refine blk_put (cs := #[.int .u64 ((rd_T60 l0_5 x40_2).f0), .int .u64 0, .string (⟨#[]⟩ : ByteArray)]) ?_ 1 _ rfl; (with_reducible repeat (first | refine blk_drewN ?_ _ | refine blk_drew ?_ | refine blk_alloc ?_ _)); refine blk_put (cs := #[.int .u64 0, .int .u64 0, .string (⟨#[]⟩ : ByteArray)]) ?_ 0 _ rfl; (with_reducible repeat (first | refine blk_drewN ?_ _ | refine blk_drew ?_ | refine blk_alloc ?_ _)); exact BK261.out) hb); have n3_ := Aside0.mk (below_step (by repeat (first | (with_reducible first | exact HB.out | apply below_alloc | apply pw_below_drewN | apply below_drew1 | refine below_set ?_ GE258.out | refine below_set ?_ GE259.out | refine below_set ?_ GE261.out) | exact HB.out)) hb); have n4_ := Aside0.mk (hbox); have n5_ := Aside0.mk ((by rw [hg]; exact (below_size (by repeat (first | (with_reducible first | exact HB.out | apply below_alloc | apply pw_below_drewN | apply below_drew1 | refine below_set ?_ GE258.out | refine below_set ?_ GE259.out | refine below_set ?_ GE261.out) | exact HB.out))) : w.heap.size ≤ gb262)); have n6_ := Aside0.mk ((by rw [hg]; exact (below_size (by repeat (first | (with_reducible first | exact HB.out | apply below_alloc | apply pw_below_drewN | apply below_drew1 | refine below_set ?_ GE258.out | refine below_set ?_ GE259.out | refine below_set ?_ GE261.out) | exact HB.out))) : w.heap.size ≤ gb262)); have n7_ := Aside0.mk ((by rw [hg]; exact Nat.ne_of_lt (blk_lt (g := gb258) (o := .cells #[.int .i64 a0_0, .int .u64 a0_1, .int .u64 a0_2, .slice A0_3 l0_3.length c0_3, .int .i64 a0_4, .slice (some ad260) l0_5.length c0_5] 46 (0, 0)) (by (with_reducible repeat (first | refine blk_drewN ?_ _ | refine blk_drew ?_ | refine blk_alloc ?_ _)); refine blk_far ?_ NB258_261.out _; (with_reducible repeat (first | refine blk_drewN ?_ _ | refine blk_drew ?_ | refine blk_alloc ?_ _)); refine blk_far ?_ NB258_261.out _; (with_reducible repeat (first | refine blk_drewN ?_ _ | refine blk_drew ?_ | refine blk_alloc ?_ _)); refine blk_far ?_ NB258_261.out _; (with_reducible repeat (first | refine blk_drewN ?_ _ | refine blk_drew ?_ | refine blk_alloc ?_ _)); exact BK258.out)) : gb258 ≠ gb262)); have n8_ := Aside0.mk ((by rw [hg]; exact Nat.ne_of_gt (blk_lt (g := gb258) (o := .cells #[.int .i64 a0_0, .int .u64 a0_1, .int .u64 a0_2, .slice A0_3 l0_3.length c0_3, .int .i64 a0_4, .slice (some ad260) l0_5.length c0_5] 46 (0, 0)) (by (with_reducible repeat (first | refine blk_drewN ?_ _ | refine blk_drew ?_ | refine blk_alloc ?_ _)); refine blk_far ?_ NB258_261.out _; (with_reducible repeat (first | refine blk_drewN ?_ _ | refine blk_drew ?_ | refine blk_alloc ?_ _)); refine blk_far ?_ NB258_261.out _; (with_reducible repeat (first | refine blk_drewN ?_ _ | refine blk_drew ?_ | refine blk_alloc ?_ _)); refine blk_far ?_ NB258_261.out _; (with_reducible repeat (first | refine blk_drewN ?_ _ | refine blk_drew ?_ | refine blk_alloc ?_ _)); exact BK258.out)) : gb262 ≠ gb258)); have n9_ := Aside0.mk ((by rw [hg]; exact Nat.ne_of_lt (blk_lt (g := gb259) (o := .cells #[.int .u64 x260000_2, .string x260001_2] 121 (0, 0)) (by (with_reducible repeat (first | refine blk_drewN ?_ _ | refine blk_drew ?_ | refine blk_alloc ?_ _)); refine blk_far ?_ NB259_261.out _; (with_reducible repeat (first | refine blk_drewN ?_ _ | refine blk_drew ?_ | refine blk_alloc ?_ _)); refine blk_far ?_ NB259_261.out _; (with_reducible repeat (first | refine blk_drewN ?_ _ | refine blk_drew ?_ | refine blk_alloc ?_ _)); refine blk_far ?_ NB259_261.out _; (with_reducible repeat (first | refine blk_drewN ?_ _ | refine blk_drew ?_ | refine blk_alloc ?_ _)); exact BK259.out)) : gb259 ≠ gb262)); have n10_ := Aside0.mk ((by rw [hg]; exact Nat.ne_of_gt (blk_lt (g := gb259) (o := .cells #[.int .u64 x260000_2, .string x260001_2] 121 (0, 0)) (by (with_reducible repeat (first | refine blk_drewN ?_ _ | refine blk_drew ?_ | refine blk_alloc ?_ _)); refine blk_far ?_ NB259_261.out _; (with_reducible repeat (first | refine blk_drewN ?_ _ | refine blk_drew ?_ | refine blk_alloc ?_ _)); refine blk_far ?_ NB259_261.out _; (with_reducible repeat (first | refine blk_drewN ?_ _ | refine blk_drew ?_ | refine blk_alloc ?_ _)); refine blk_far ?_ NB259_261.out _; (with_reducible repeat (first | refine blk_drewN ?_ _ | refine blk_drew ?_ | refine blk_alloc ?_ _)); exact BK259.out)) : gb262 ≠ gb259)); have n11_ := Aside0.mk ((by rw [hg]; exact Nat.ne_of_lt (blk_lt (g := gb261) (o := .cells #[.int .u64 ((rd_T60 l0_5 x40_2).f0), .int .u64 ((rd_T60 l0_5 x40_2).f1), .string ((rd_T60 l0_5 x40_2).f2)] 60 (0, 0)) (by (with_reducible repeat (first | refine blk_drewN ?_ _ | refine blk_drew ?_ | refine blk_alloc ?_ _)); refine blk_put (cs := #[.int .u64 ((rd_T60 l0_5 x40_2).f0), .int .u64 ((rd_T60 l0_5 x40_2).f1), .string (⟨#[]⟩ : ByteArray)]) ?_ 2 _ rfl; (with_reducible repeat (first | refine blk_drewN ?_ _ | refine blk_drew ?_ | refine blk_alloc ?_ _)); refine blk_put (cs := #[.int .u64 ((rd_T60 l0_5 x40_2).f0), .int .u64 0, .string (⟨#[]⟩ : ByteArray)]) ?_ 1 _ rfl; (with_reducible repeat (first | refine blk_drewN ?_ _ | refine blk_drew ?_ | refine blk_alloc ?_ _)); refine blk_put (cs := #[.int .u64 0, .int .u64 0, .string (⟨#[]⟩ : ByteArray)]) ?_ 0 _ rfl; (with_reducible repeat (first | refine blk_drewN ?_ _ | refine blk_drew ?_ | refine blk_alloc ?_ _)); exact BK261.out)) : gb261 ≠ gb262)); have n12_ := Aside0.mk ((by rw [hg]; exact Nat.ne_of_gt (blk_lt (g := gb261) (o := .cells #[.int .u64 ((rd_T60 l0_5 x40_2).f0), .int .u64 ((rd_T60 l0_5 x40_2).f1), .string ((rd_T60 l0_5 x40_2).f2)] 60 (0, 0)) (by (with_reducible repeat (first | refine blk_drewN ?_ _ | refine blk_drew ?_ | refine blk_alloc ?_ _)); refine blk_put (cs := #[.int .u64 ((rd_T60 l0_5 x40_2).f0), .int .u64 ((rd_T60 l0_5 x40_2).f1), .string (⟨#[]⟩ : ByteArray)]) ?_ 2 _ rfl; (with_reducible repeat (first | refine blk_drewN ?_ _ | refine blk_drew ?_ | refine blk_alloc ?_ _)); refine blk_put (cs := #[.int .u64 ((rd_T60 l0_5 x40_2).f0), .int .u64 0, .string (⟨#[]⟩ : ByteArray)]) ?_ 1 _ rfl; (with_reducible repeat (first | refine blk_drewN ?_ _ | refine blk_drew ?_ | refine blk_alloc ?_ _)); refine blk_put (cs := #[.int .u64 0, .int .u64 0, .string (⟨#[]⟩ : ByteArray)]) ?_ 0 _ rfl; (with_reducible repeat (first | refine blk_drewN ?_ _ | refine blk_drew ?_ | refine blk_alloc ?_ _)); exact BK261.out)) : gb262 ≠ gb261)); clear BK258; clear BK259; clear BK261; clear HB; have BK258 := n0_; have BK259 := n1_; have BK261 := n2_; have HB := n3_; have BK262 := n4_; have GW262 := n5_; have GE262 := n6_; have NB258_262 := n7_; have NB262_258 := n8_; have NB259_262 := n9_; have NB262_259 := n10_; have NB261_262 := n11_; have NB262_261 := n12_; clear n0_ n1_ n2_ n3_ n4_ n5_ n6_ n7_ n8_ n9_ n10_ n11_ n12_; clear hb hbox hg; have hnb64 := NB262_258.out; have hnc64 := NB258_262.out; have hnb65 := NB262_259.out; have hnc65 := NB259_262.out; have hnb66 := NB262_261.out; have hnc66 := NB261_262.out; have hcz67_0 : w63.cell? ⟨gb262, 0, none⟩ = some (.int .u64 0) := (blk_cell BK262.out 0).trans rfl; have hcz67_1 : w63.cell? ⟨gb262, 1, none⟩ = some (.string (⟨#[]⟩ : ByteArray)) := (blk_cell BK262.out 1).trans rfl; have hfz67_0 := blk_frozen BK262.out 0; have hfz67_1 := blk_frozen BK262.out 1; have hcz68_0 : w63.cell? ⟨gb261, 0, none⟩ = some (.int .u64 ((rd_T60 l0_5 x40_2).f0)) := (blk_cell BK261.out 0).trans rfl; have hcz68_1 : w63.cell? ⟨gb261, 1, none⟩ = some (.int .u64 ((rd_T60 l0_5 x40_2).f1)) := (blk_cell BK261.out 1).trans rfl; have hcz68_2 : w63.cell? ⟨gb261, 2, none⟩ = some (.string ((rd_T60 l0_5 x40_2).f2)) := (blk_cell BK261.out 2).trans rfl; have hfz68_0 := blk_frozen BK261.out 0; have hfz68_1 := blk_frozen BK261.out 1; have hfz68_2 := blk_frozen BK261.out 2) | (go_at_call 73; (with_reducible refine (image_goodKey.calls ((rd_T60 l0_5 x40_2).f2) true _ A55.out).mono ?_); rintro e w' ⟨rfl, ⟨nd, rfl⟩⟩; have hnb69 := NB259_258.out; have hnc69 := NB258_259.out; have hcz70_0 : w63.cell? ⟨gb259, 0, none⟩ = some (.int .u64 x260000_2) := (blk_cell BK259.out 0).trans rfl; have hcz70_1 : w63.cell? ⟨gb259, 1, none⟩ = some (.string x260001_2) := (blk_cell BK259.out 1).trans rfl; have hfz70_0 := blk_frozen BK259.out 0; have hfz70_1 := blk_frozen BK259.out 1) | (go_at_call 74; (with_reducible refine (image_place_before.calls x260000_2 x260001_2 ((rd_T60 l0_5 x40_2).f0) ((rd_T60 l0_5 x40_2).f2) true _ A57.out).mono ?_); rintro e w71 ⟨rfl, hb⟩; have n0_ := Aside0.mk (blk_below (g := gb258) (o := .cells #[.int .i64 a0_0, .int .u64 a0_1, .int .u64 a0_2, .slice A0_3 l0_3.length c0_3, .int .i64 a0_4, .slice (some ad260) l0_5.length c0_5] 46 (0, 0)) (by (with_reducible repeat (first | refine blk_drewN ?_ _ | refine blk_drew ?_ | refine blk_alloc ?_ _)); refine blk_far ?_ NB258_262.out _; (with_reducible repeat (first | refine blk_drewN ?_ _ | refine blk_drew ?_ | refine blk_alloc ?_ _)); refine blk_far ?_ NB258_262.out _; (with_reducible repeat (first | refine blk_drewN ?_ _ | refine blk_drew ?_ | refine blk_alloc ?_ _)); exact BK258.out) hb); have n1_ := Aside0.mk (blk_below (g := gb259) (o := .cells #[.int .u64 x260000_2, .string x260001_2] 121 (0, 0)) (by (with_reducible repeat (first | refine blk_drewN ?_ _ | refine blk_drew ?_ | refine blk_alloc ?_ _)); refine blk_far ?_ NB259_262.out _; (with_reducible repeat (first | refine blk_drewN ?_ _ | refine blk_drew ?_ | refine blk_alloc ?_ _)); refine blk_far ?_ NB259_262.out _; (with_reducible repeat (first | refine blk_drewN ?_ _ | refine blk_drew ?_ | refine blk_alloc ?_ _)); exact BK259.out) hb); have n2_ := Aside0.mk (blk_below (g := gb261) (o := .cells #[.int .u64 ((rd_T60 l0_5 x40_2).f0), .int .u64 ((rd_T60 l0_5 x40_2).f1), .string ((rd_T60 l0_5 x40_2).f2)] 60 (0, 0)) (by (with_reducible repeat (first | refine blk_drewN ?_ _ | refine blk_drew ?_ | refine blk_alloc ?_ _)); refine blk_far ?_ NB261_262.out _; (with_reducible repeat (first | refine blk_drewN ?_ _ | refine blk_drew ?_ | refine blk_alloc ?_ _)); refine blk_far ?_ NB261_262.out _; (with_reducible repeat (first | refine blk_drewN ?_ _ | refine blk_drew ?_ | refine blk_alloc ?_ _)); exact BK261.out) hb); have n3_ := Aside0.mk (blk_below (g := gb262) (o := .cells #[.int .u64 ((rd_T60 l0_5 x40_2).f0), .string ((rd_T60 l0_5 x40_2).f2)] 121 (0, 0)) (by (with_reducible repeat (first | refine blk_drewN ?_ _ | refine blk_drew ?_ | refine blk_alloc ?_ _)); refine blk_put (cs := #[.int .u64 ((rd_T60 l0_5 x40_2).f0), .string (⟨#[]⟩ : ByteArray)]) ?_ 1 _ rfl; (with_reducible repeat (first | refine blk_drewN ?_ _ | refine blk_drew ?_ | refine blk_alloc ?_ _)); refine blk_put (cs := #[.int .u64 0, .string (⟨#[]⟩ : ByteArray)]) ?_ 0 _ rfl; (with_reducible repeat (first | refine blk_drewN ?_ _ | refine blk_drew ?_ | refine blk_alloc ?_ _)); exact BK262.out) hb); have n4_ := Aside0.mk (below_step (by repeat (first | (with_reducible first | exact HB.out | apply below_alloc | apply pw_below_drewN | apply below_drew1 | refine below_set ?_ GE258.out | refine below_set ?_ GE259.out | refine below_set ?_ GE261.out | refine below_set ?_ GE262.out) | exact HB.out)) hb); clear BK258; clear BK259; clear BK261; clear BK262; clear HB; have BK258 := n0_; have BK259 := n1_; have BK261 := n2_; have BK262 := n3_; have HB := n4_; clear n0_ n1_ n2_ n3_ n4_; (try clear hb); (try clear hb2); (try clear hk); (try clear hi); have hcz72_0 : w71.cell? ⟨gb262, 0, none⟩ = some (.int .u64 ((rd_T60 l0_5 x40_2).f0)) := (blk_cell BK262.out 0).trans rfl; have hcz72_1 : w71.cell? ⟨gb262, 1, none⟩ = some (.string ((rd_T60 l0_5 x40_2).f2)) := (blk_cell BK262.out 1).trans rfl; have hfz72_0 := blk_frozen BK262.out 0; have hfz72_1 := blk_frozen BK262.out 1; have hcz73_0 : w71.cell? ⟨gb259, 0, none⟩ = some (.int .u64 x260000_2) := (blk_cell BK259.out 0).trans rfl; have hcz73_1 : w71.cell? ⟨gb259, 1, none⟩ = some (.string x260001_2) := (blk_cell BK259.out 1).trans rfl; have hfz73_0 := blk_frozen BK259.out 0; have hfz73_1 := blk_frozen BK259.out 1))
                            go_roundg k2
                            case measure => have := HJ1.out; have := HK2.out; omega
                            case rel => exact ⟨(wrap64 (x40_2 + 1)), ((rd_T60 l0_5 x40_2).f0), ((rd_T60 l0_5 x40_2).f2), (by first | rfl | (simp; done) | (simp [*]; done)), H', ⟨by have := HJ1.out; have := HK2.out; omega⟩, ⟨by (with_reducible repeat (first | refine blk_drewN ?_ _ | refine blk_drew ?_ | refine blk_alloc ?_ _)); refine blk_far ?_ NB258_259.out _; (with_reducible repeat (first | refine blk_drewN ?_ _ | refine blk_drew ?_ | refine blk_alloc ?_ _)); refine blk_far ?_ NB258_259.out _; (with_reducible repeat (first | refine blk_drewN ?_ _ | refine blk_drew ?_ | refine blk_alloc ?_ _)); exact BK258.out⟩, ⟨by (with_reducible repeat (first | refine blk_drewN ?_ _ | refine blk_drew ?_ | refine blk_alloc ?_ _)); refine blk_put (cs := #[.int .u64 ((rd_T60 l0_5 x40_2).f0), .string x260001_2]) ?_ 1 _ rfl; (with_reducible repeat (first | refine blk_drewN ?_ _ | refine blk_drew ?_ | refine blk_alloc ?_ _)); refine blk_put (cs := #[.int .u64 x260000_2, .string x260001_2]) ?_ 0 _ rfl; (with_reducible repeat (first | refine blk_drewN ?_ _ | refine blk_drew ?_ | refine blk_alloc ?_ _)); exact BK259.out⟩, ⟨by repeat (first | (with_reducible first | exact HB.out | apply below_alloc | apply pw_below_drewN | apply below_drew1 | refine below_set ?_ GE258.out | refine below_set ?_ GE259.out | refine below_set ?_ GE261.out | refine below_set ?_ GE262.out) | exact HB.out)⟩⟩
                          · replace c58 := Bool.eq_false_iff.mpr c58
                            subst c58
                            have H1 : (some false) = some r := by rw [if_neg (show ¬ (false = true) by decide)] at H; exact H
                            clear H
                            have H := H1
                            clear H1
                            obtain rfl := Option.some.inj H
                            have p260 : 0 ≤ (x40_2 : Int) := of_decide_eq_true (by first | (with_reducible assumption) | assumption)
                            have q260 : x40_2 < (l0_5.length : Int) := of_decide_eq_true (by first | (with_reducible assumption) | assumption)
                            obtain ⟨ad260, e260, hx260_0, hx260_1, hx260_2⟩ := at_T60 HR0_5.out x40_2 p260 q260
                            cases e260
                            replace hx260_0 := (HB.out.cell (World.block_lt_of_cell? w _ hx260_0)).trans hx260_0
                            replace hx260_1 := (HB.out.cell (World.block_lt_of_cell? w _ hx260_1)).trans hx260_1
                            replace hx260_2 := (HB.out.cell (World.block_lt_of_cell? w _ hx260_2)).trans hx260_2
                            replace p260 := eq_true p260
                            replace q260 := eq_true q260
                            go_wp2_with (first | ((with_reducible refine gate_dst (N := 5) rfl ?_); (try (refine gate_guard (by rfl) ?_; dsimp only)); refine box_event ?hg (N := 5) ?hd (cs := #[.int .u64 0, .int .u64 0, .string (⟨#[]⟩ : ByteArray)]) (t := 60) ?hr ?_; (case hd => rfl); (case hg => rfl); (case hr => first | (go_simp; done) | (go_simp; rfl)); intro gb261 hg w74 hbox hb; have n0_ := Aside0.mk (blk_below (g := gb258) (o := .cells #[.int .i64 a0_0, .int .u64 a0_1, .int .u64 a0_2, .slice A0_3 l0_3.length c0_3, .int .i64 a0_4, .slice (some ad260) l0_5.length c0_5] 46 (0, 0)) (by (with_reducible repeat (first | refine blk_drewN ?_ _ | refine blk_drew ?_ | refine blk_alloc ?_ _)); exact BK258.out) hb); have n1_ := Aside0.mk (blk_below (g := gb259) (o := .cells #[.int .u64 x260000_2, .string x260001_2] 121 (0, 0)) (by (with_reducible repeat (first | refine blk_drewN ?_ _ | refine blk_drew ?_ | refine blk_alloc ?_ _)); exact BK259.out) hb); have n2_ := Aside0.mk (below_step (by repeat (first | (with_reducible first | exact HB.out | apply below_alloc | apply pw_below_drewN | apply below_drew1 | refine below_set ?_ GE258.out | refine below_set ?_ GE259.out) | exact HB.out)) hb); have n3_ := Aside0.mk (hbox); have n4_ := Aside0.mk ((by rw [hg]; exact (below_size (by repeat (first | (with_reducible first | exact HB.out | apply below_alloc | apply pw_below_drewN | apply below_drew1 | refine below_set ?_ GE258.out | refine below_set ?_ GE259.out) | exact HB.out))) : w.heap.size ≤ gb261)); have n5_ := Aside0.mk ((by rw [hg]; exact (below_size (by repeat (first | (with_reducible first | exact HB.out | apply below_alloc | apply pw_below_drewN | apply below_drew1 | refine below_set ?_ GE258.out | refine below_set ?_ GE259.out) | exact HB.out))) : w.heap.size ≤ gb261)); have n6_ := Aside0.mk ((by rw [hg]; exact Nat.ne_of_lt (blk_lt (g := gb258) (o := .cells #[.int .i64 a0_0, .int .u64 a0_1, .int .u64 a0_2, .slice A0_3 l0_3.length c0_3, .int .i64 a0_4, .slice (some ad260) l0_5.length c0_5] 46 (0, 0)) (by (with_reducible repeat (first | refine blk_drewN ?_ _ | refine blk_drew ?_ | refine blk_alloc ?_ _)); exact BK258.out)) : gb258 ≠ gb261)); have n7_ := Aside0.mk ((by rw [hg]; exact Nat.ne_of_gt (blk_lt (g := gb258) (o := .cells #[.int .i64 a0_0, .int .u64 a0_1, .int .u64 a0_2, .slice A0_3 l0_3.length c0_3, .int .i64 a0_4, .slice (some ad260) l0_5.length c0_5] 46 (0, 0)) (by (with_reducible repeat (first | refine blk_drewN ?_ _ | refine blk_drew ?_ | refine blk_alloc ?_ _)); exact BK258.out)) : gb261 ≠ gb258)); have n8_ := Aside0.mk ((by rw [hg]; exact Nat.ne_of_lt (blk_lt (g := gb259) (o := .cells #[.int .u64 x260000_2, .string x260001_2] 121 (0, 0)) (by (with_reducible repeat (first | refine blk_drewN ?_ _ | refine blk_drew ?_ | refine blk_alloc ?_ _)); exact BK259.out)) : gb259 ≠ gb261)); have n9_ := Aside0.mk ((by rw [hg]; exact Nat.ne_of_gt (blk_lt (g := gb259) (o := .cells #[.int .u64 x260000_2, .string x260001_2] 121 (0, 0)) (by (with_reducible repeat (first | refine blk_drewN ?_ _ | refine blk_drew ?_ | refine blk_alloc ?_ _)); exact BK259.out)) : gb261 ≠ gb259)); clear BK258; clear BK259; clear HB; have BK258 := n0_; have BK259 := n1_; have HB := n2_; have BK261 := n3_; have GW261 := n4_; have GE261 := n5_; have NB258_261 := n6_; have NB261_258 := n7_; have NB259_261 := n8_; have NB261_259 := n9_; clear n0_ n1_ n2_ n3_ n4_ n5_ n6_ n7_ n8_ n9_; clear hb hbox hg; have hnb75 := NB261_258.out; have hnc75 := NB258_261.out; have hnb76 := NB261_259.out; have hnc76 := NB259_261.out; have hcz77_0 : w74.cell? ⟨gb261, 0, none⟩ = some (.int .u64 0) := (blk_cell BK261.out 0).trans rfl; have hcz77_1 : w74.cell? ⟨gb261, 1, none⟩ = some (.int .u64 0) := (blk_cell BK261.out 1).trans rfl; have hcz77_2 : w74.cell? ⟨gb261, 2, none⟩ = some (.string (⟨#[]⟩ : ByteArray)) := (blk_cell BK261.out 2).trans rfl; have hfz77_0 := blk_frozen BK261.out 0; have hfz77_1 := blk_frozen BK261.out 1; have hfz77_2 := blk_frozen BK261.out 2) | ((with_reducible refine gate_dst (N := 6) rfl ?_); (try (refine gate_guard (by rfl) ?_; dsimp only)); refine box_event ?hg (N := 6) ?hd (cs := #[.int .u64 0, .string (⟨#[]⟩ : ByteArray)]) (t := 121) ?hr ?_; (case hd => rfl); (case hg => rfl); (case hr => first | (go_simp; done) | (go_simp; rfl)); intro gb262 hg w78 hbox hb; have n0_ := Aside0.mk (blk_below (g := gb258) (o := .cells #[.int .i64 a0_0, .int .u64 a0_1, .int .u64 a0_2, .slice A0_3 l0_3.length c0_3, .int .i64 a0_4, .slice (some ad260) l0_5.length c0_5] 46 (0, 0)) (by (with_reducible repeat (first | refine blk_drewN ?_ _ | refine blk_drew ?_ | refine blk_alloc ?_ _)); refine blk_far ?_ NB258_261.out _; (with_reducible repeat (first | refine blk_drewN ?_ _ | refine blk_drew ?_ | refine blk_alloc ?_ _)); refine blk_far ?_ NB258_261.out _; (with_reducible repeat (first | refine blk_drewN ?_ _ | refine blk_drew ?_ | refine blk_alloc ?_ _)); refine blk_far ?_ NB258_261.out _; (with_reducible repeat (first | refine blk_drewN ?_ _ | refine blk_drew ?_ | refine blk_alloc ?_ _)); exact BK258.out) hb); have n1_ := Aside0.mk (blk_below (g := gb259) (o := .cells #[.int .u64 x260000_2, .string x260001_2] 121 (0, 0)) (by (with_reducible repeat (first | refine blk_drewN ?_ _ | refine blk_drew ?_ | refine blk_alloc ?_ _)); refine blk_far ?_ NB259_261.out _; (with_reducible repeat (first | refine blk_drewN ?_ _ | refine blk_drew ?_ | refine blk_alloc ?_ _)); refine blk_far ?_ NB259_261.out _; (with_reducible repeat (first | refine blk_drewN ?_ _ | refine blk_drew ?_ | refine blk_alloc ?_ _)); refine blk_far ?_ NB259_261.out _; (with_reducible repeat (first | refine blk_drewN ?_ _ | refine blk_drew ?_ | refine blk_alloc ?_ _)); exact BK259.out) hb); have n2_ := Aside0.mk (blk_below (g := gb261) (o := .cells #[.int .u64 ((rd_T60 l0_5 x40_2).f0), .int .u64 ((rd_T60 l0_5 x40_2).f1), .string ((rd_T60 l0_5 x40_2).f2)] 60 (0, 0)) (by (with_reducible repeat (first | refine blk_drewN ?_ _ | refine blk_drew ?_ | refine blk_alloc ?_ _)); refine blk_put (cs := #[.int .u64 ((rd_T60 l0_5 x40_2).f0), .int .u64 ((rd_T60 l0_5 x40_2).f1), .string (⟨#[]⟩ : ByteArray)]) ?_ 2 _ rfl; (with_reducible repeat (first | refine blk_drewN ?_ _ | refine blk_drew ?_ | refine blk_alloc ?_ _)); refine blk_put (cs := #[.int .u64 ((rd_T60 l0_5 x40_2).f0), .int .u64 0, .string (⟨#[]⟩ : ByteArray)]) ?_ 1 _ rfl; (with_reducible repeat (first | refine blk_drewN ?_ _ | refine blk_drew ?_ | refine blk_alloc ?_ _)); refine blk_put (cs := #[.int .u64 0, .int .u64 0, .string (⟨#[]⟩ : ByteArray)]) ?_ 0 _ rfl; (with_reducible repeat (first | refine blk_drewN ?_ _ | refine blk_drew ?_ | refine blk_alloc ?_ _)); exact BK261.out) hb); have n3_ := Aside0.mk (below_step (by repeat (first | (with_reducible first | exact HB.out | apply below_alloc | apply pw_below_drewN | apply below_drew1 | refine below_set ?_ GE258.out | refine below_set ?_ GE259.out | refine below_set ?_ GE261.out) | exact HB.out)) hb); have n4_ := Aside0.mk (hbox); have n5_ := Aside0.mk ((by rw [hg]; exact (below_size (by repeat (first | (with_reducible first | exact HB.out | apply below_alloc | apply pw_below_drewN | apply below_drew1 | refine below_set ?_ GE258.out | refine below_set ?_ GE259.out | refine below_set ?_ GE261.out) | exact HB.out))) : w.heap.size ≤ gb262)); have n6_ := Aside0.mk ((by rw [hg]; exact (below_size (by repeat (first | (with_reducible first | exact HB.out | apply below_alloc | apply pw_below_drewN | apply below_drew1 | refine below_set ?_ GE258.out | refine below_set ?_ GE259.out | refine below_set ?_ GE261.out) | exact HB.out))) : w.heap.size ≤ gb262)); have n7_ := Aside0.mk ((by rw [hg]; exact Nat.ne_of_lt (blk_lt (g := gb258) (o := .cells #[.int .i64 a0_0, .int .u64 a0_1, .int .u64 a0_2, .slice A0_3 l0_3.length c0_3, .int .i64 a0_4, .slice (some ad260) l0_5.length c0_5] 46 (0, 0)) (by (with_reducible repeat (first | refine blk_drewN ?_ _ | refine blk_drew ?_ | refine blk_alloc ?_ _)); refine blk_far ?_ NB258_261.out _; (with_reducible repeat (first | refine blk_drewN ?_ _ | refine blk_drew ?_ | refine blk_alloc ?_ _)); refine blk_far ?_ NB258_261.out _; (with_reducible repeat (first | refine blk_drewN ?_ _ | refine blk_drew ?_ | refine blk_alloc ?_ _)); refine blk_far ?_ NB258_261.out _; (with_reducible repeat (first | refine blk_drewN ?_ _ | refine blk_drew ?_ | refine blk_alloc ?_ _)); exact BK258.out)) : gb258 ≠ gb262)); have n8_ := Aside0.mk ((by rw [hg]; exact Nat.ne_of_gt (blk_lt (g := gb258) (o := .cells #[.int .i64 a0_0, .int .u64 a0_1, .int .u64 a0_2, .slice A0_3 l0_3.length c0_3, .int .i64 a0_4, .slice (some ad260) l0_5.length c0_5] 46 (0, 0)) (by (with_reducible repeat (first | refine blk_drewN ?_ _ | refine blk_drew ?_ | refine blk_alloc ?_ _)); refine blk_far ?_ NB258_261.out _; (with_reducible repeat (first | refine blk_drewN ?_ _ | refine blk_drew ?_ | refine blk_alloc ?_ _)); refine blk_far ?_ NB258_261.out _; (with_reducible repeat (first | refine blk_drewN ?_ _ | refine blk_drew ?_ | refine blk_alloc ?_ _)); refine blk_far ?_ NB258_261.out _; (with_reducible repeat (first | refine blk_drewN ?_ _ | refine blk_drew ?_ | refine blk_alloc ?_ _)); exact BK258.out)) : gb262 ≠ gb258)); have n9_ := Aside0.mk ((by rw [hg]; exact Nat.ne_of_lt (blk_lt (g := gb259) (o := .cells #[.int .u64 x260000_2, .string x260001_2] 121 (0, 0)) (by (with_reducible repeat (first | refine blk_drewN ?_ _ | refine blk_drew ?_ | refine blk_alloc ?_ _)); refine blk_far ?_ NB259_261.out _; (with_reducible repeat (first | refine blk_drewN ?_ _ | refine blk_drew ?_ | refine blk_alloc ?_ _)); refine blk_far ?_ NB259_261.out _; (with_reducible repeat (first | refine blk_drewN ?_ _ | refine blk_drew ?_ | refine blk_alloc ?_ _)); refine blk_far ?_ NB259_261.out _; (with_reducible repeat (first | refine blk_drewN ?_ _ | refine blk_drew ?_ | refine blk_alloc ?_ _)); exact BK259.out)) : gb259 ≠ gb262)); have n10_ := Aside0.mk ((by rw [hg]; exact Nat.ne_of_gt (blk_lt (g := gb259) (o := .cells #[.int .u64 x260000_2, .string x260001_2] 121 (0, 0)) (by (with_reducible repeat (first | refine blk_drewN ?_ _ | refine blk_drew ?_ | refine blk_alloc ?_ _)); refine blk_far ?_ NB259_261.out _; (with_reducible repeat (first | refine blk_drewN ?_ _ | refine blk_drew ?_ | refine blk_alloc ?_ _)); refine blk_far ?_ NB259_261.out _; (with_reducible repeat (first | refine blk_drewN ?_ _ | refine blk_drew ?_ | refine blk_alloc ?_ _)); refine blk_far ?_ NB259_261.out _; (with_reducible repeat (first | refine blk_drewN ?_ _ | refine blk_drew ?_ | refine blk_alloc ?_ _)); exact BK259.out)) : gb262 ≠ gb259)); have n11_ := Aside0.mk ((by rw [hg]; exact Nat.ne_of_lt (blk_lt (g := gb261) (o := .cells #[.int .u64 ((rd_T60 l0_5 x40_2).f0), .int .u64 ((rd_T60 l0_5 x40_2).f1), .string ((rd_T60 l0_5 x40_2).f2)] 60 (0, 0)) (by (with_reducible repeat (first | refine blk_drewN ?_ _ | refine blk_drew ?_ | refine blk_alloc ?_ _)); refine blk_put (cs := #[.int .u64 ((rd_T60 l0_5 x40_2).f0), .int .u64 ((rd_T60 l0_5 x40_2).f1), .string (⟨#[]⟩ : ByteArray)]) ?_ 2 _ rfl; (with_reducible repeat (first | refine blk_drewN ?_ _ | refine blk_drew ?_ | refine blk_alloc ?_ _)); refine blk_put (cs := #[.int .u64 ((rd_T60 l0_5 x40_2).f0), .int .u64 0, .string (⟨#[]⟩ : ByteArray)]) ?_ 1 _ rfl; (with_reducible repeat (first | refine blk_drewN ?_ _ | refine blk_drew ?_ | refine blk_alloc ?_ _)); refine blk_put (cs := #[.int .u64 0, .int .u64 0, .string (⟨#[]⟩ : ByteArray)]) ?_ 0 _ rfl; (with_reducible repeat (first | refine blk_drewN ?_ _ | refine blk_drew ?_ | refine blk_alloc ?_ _)); exact BK261.out)) : gb261 ≠ gb262)); have n12_ := Aside0.mk ((by rw [hg]; exact Nat.ne_of_gt (blk_lt (g := gb261) (o := .cells #[.int .u64 ((rd_T60 l0_5 x40_2).f0), .int .u64 ((rd_T60 l0_5 x40_2).f1), .string ((rd_T60 l0_5 x40_2).f2)] 60 (0, 0)) (by (with_reducible repeat (first | refine blk_drewN ?_ _ | refine blk_drew ?_ | refine blk_alloc ?_ _)); refine blk_put (cs := #[.int .u64 ((rd_T60 l0_5 x40_2).f0), .int .u64 ((rd_T60 l0_5 x40_2).f1), .string (⟨#[]⟩ : ByteArray)]) ?_ 2 _ rfl; (with_reducible repeat (first | refine blk_drewN ?_ _ | refine blk_drew ?_ | refine blk_alloc ?_ _)); refine blk_put (cs := #[.int .u64 ((rd_T60 l0_5 x40_2).f0), .int .u64 0, .string (⟨#[]⟩ : ByteArray)]) ?_ 1 _ rfl; (with_reducible repeat (first | refine blk_drewN ?_ _ | refine blk_drew ?_ | refine blk_alloc ?_ _)); refine blk_put (cs := #[.int .u64 0, .int .u64 0, .string (⟨#[]⟩ : ByteArray)]) ?_ 0 _ rfl; (with_reducible repeat (first | refine blk_drewN ?_ _ | refine blk_drew ?_ | refine blk_alloc ?_ _)); exact BK261.out)) : gb262 ≠ gb261)); clear BK258; clear BK259; clear BK261; clear HB; have BK258 := n0_; have BK259 := n1_; have BK261 := n2_; have HB := n3_; have BK262 := n4_; have GW262 := n5_; have GE262 := n6_; have NB258_262 := n7_; have NB262_258 := n8_; have NB259_262 := n9_; have NB262_259 := n10_; have NB261_262 := n11_; have NB262_261 := n12_; clear n0_ n1_ n2_ n3_ n4_ n5_ n6_ n7_ n8_ n9_ n10_ n11_ n12_; clear hb hbox hg; have hnb79 := NB262_258.out; have hnc79 := NB258_262.out; have hnb80 := NB262_259.out; have hnc80 := NB259_262.out; have hnb81 := NB262_261.out; have hnc81 := NB261_262.out; have hcz82_0 : w78.cell? ⟨gb262, 0, none⟩ = some (.int .u64 0) := (blk_cell BK262.out 0).trans rfl; have hcz82_1 : w78.cell? ⟨gb262, 1, none⟩ = some (.string (⟨#[]⟩ : ByteArray)) := (blk_cell BK262.out 1).trans rfl; have hfz82_0 := blk_frozen BK262.out 0; have hfz82_1 := blk_frozen BK262.out 1; have hcz83_0 : w78.cell? ⟨gb261, 0, none⟩ = some (.int .u64 ((rd_T60 l0_5 x40_2).f0)) := (blk_cell BK261.out 0).trans rfl; have hcz83_1 : w78.cell? ⟨gb261, 1, none⟩ = some (.int .u64 ((rd_T60 l0_5 x40_2).f1)) := (blk_cell BK261.out 1).trans rfl; have hcz83_2 : w78.cell? ⟨gb261, 2, none⟩ = some (.string ((rd_T60 l0_5 x40_2).f2)) := (blk_cell BK261.out 2).trans rfl; have hfz83_0 := blk_frozen BK261.out 0; have hfz83_1 := blk_frozen BK261.out 1; have hfz83_2 := blk_frozen BK261.out 2) | (go_at_call 73; (with_reducible refine (image_goodKey.calls ((rd_T60 l0_5 x40_2).f2) true _ A55.out).mono ?_); rintro e w' ⟨rfl, ⟨nd, rfl⟩⟩; have hnb84 := NB259_258.out; have hnc84 := NB258_259.out; have hcz85_0 : w78.cell? ⟨gb259, 0, none⟩ = some (.int .u64 x260000_2) := (blk_cell BK259.out 0).trans rfl; have hcz85_1 : w78.cell? ⟨gb259, 1, none⟩ = some (.string x260001_2) := (blk_cell BK259.out 1).trans rfl; have hfz85_0 := blk_frozen BK259.out 0; have hfz85_1 := blk_frozen BK259.out 1) | (go_at_call 74; (with_reducible refine (image_place_before.calls x260000_2 x260001_2 ((rd_T60 l0_5 x40_2).f0) ((rd_T60 l0_5 x40_2).f2) false _ A57.out).mono ?_); rintro e w86 ⟨rfl, hb⟩; have n0_ := Aside0.mk (blk_below (g := gb258) (o := .cells #[.int .i64 a0_0, .int .u64 a0_1, .int .u64 a0_2, .slice A0_3 l0_3.length c0_3, .int .i64 a0_4, .slice (some ad260) l0_5.length c0_5] 46 (0, 0)) (by (with_reducible repeat (first | refine blk_drewN ?_ _ | refine blk_drew ?_ | refine blk_alloc ?_ _)); refine blk_far ?_ NB258_262.out _; (with_reducible repeat (first | refine blk_drewN ?_ _ | refine blk_drew ?_ | refine blk_alloc ?_ _)); refine blk_far ?_ NB258_262.out _; (with_reducible repeat (first | refine blk_drewN ?_ _ | refine blk_drew ?_ | refine blk_alloc ?_ _)); exact BK258.out) hb); have n1_ := Aside0.mk (blk_below (g := gb259) (o := .cells #[.int .u64 x260000_2, .string x260001_2] 121 (0, 0)) (by (with_reducible repeat (first | refine blk_drewN ?_ _ | refine blk_drew ?_ | refine blk_alloc ?_ _)); refine blk_far ?_ NB259_262.out _; (with_reducible repeat (first | refine blk_drewN ?_ _ | refine blk_drew ?_ | refine blk_alloc ?_ _)); refine blk_far ?_ NB259_262.out _; (with_reducible repeat (first | refine blk_drewN ?_ _ | refine blk_drew ?_ | refine blk_alloc ?_ _)); exact BK259.out) hb); have n2_ := Aside0.mk (blk_below (g := gb261) (o := .cells #[.int .u64 ((rd_T60 l0_5 x40_2).f0), .int .u64 ((rd_T60 l0_5 x40_2).f1), .string ((rd_T60 l0_5 x40_2).f2)] 60 (0, 0)) (by (with_reducible repeat (first | refine blk_drewN ?_ _ | refine blk_drew ?_ | refine blk_alloc ?_ _)); refine blk_far ?_ NB261_262.out _; (with_reducible repeat (first | refine blk_drewN ?_ _ | refine blk_drew ?_ | refine blk_alloc ?_ _)); refine blk_far ?_ NB261_262.out _; (with_reducible repeat (first | refine blk_drewN ?_ _ | refine blk_drew ?_ | refine blk_alloc ?_ _)); exact BK261.out) hb); have n3_ := Aside0.mk (blk_below (g := gb262) (o := .cells #[.int .u64 ((rd_T60 l0_5 x40_2).f0), .string ((rd_T60 l0_5 x40_2).f2)] 121 (0, 0)) (by (with_reducible repeat (first | refine blk_drewN ?_ _ | refine blk_drew ?_ | refine blk_alloc ?_ _)); refine blk_put (cs := #[.int .u64 ((rd_T60 l0_5 x40_2).f0), .string (⟨#[]⟩ : ByteArray)]) ?_ 1 _ rfl; (with_reducible repeat (first | refine blk_drewN ?_ _ | refine blk_drew ?_ | refine blk_alloc ?_ _)); refine blk_put (cs := #[.int .u64 0, .string (⟨#[]⟩ : ByteArray)]) ?_ 0 _ rfl; (with_reducible repeat (first | refine blk_drewN ?_ _ | refine blk_drew ?_ | refine blk_alloc ?_ _)); exact BK262.out) hb); have n4_ := Aside0.mk (below_step (by repeat (first | (with_reducible first | exact HB.out | apply below_alloc | apply pw_below_drewN | apply below_drew1 | refine below_set ?_ GE258.out | refine below_set ?_ GE259.out | refine below_set ?_ GE261.out | refine below_set ?_ GE262.out) | exact HB.out)) hb); clear BK258; clear BK259; clear BK261; clear BK262; clear HB; have BK258 := n0_; have BK259 := n1_; have BK261 := n2_; have BK262 := n3_; have HB := n4_; clear n0_ n1_ n2_ n3_ n4_; (try clear hb); (try clear hb2); (try clear hk); (try clear hi)))
                            go_ret
                            exact ⟨by first | rfl | (simp [errW_none, errW_some] <;> rfl) | (simp [*, errW_none, errW_some] <;> rfl), by repeat (first | (with_reducible first | exact HB.out | apply below_alloc | apply pw_below_drewN | apply below_drew1 | refine below_set ?_ GE258.out | refine below_set ?_ GE259.out | refine below_set ?_ GE261.out | refine below_set ?_ GE262.out) | exact HB.out)⟩
                        · replace c56 := Bool.eq_false_iff.mpr c56
                          subst c56
                          have H1 : (some false) = some r := by rw [if_neg (show ¬ (false = true) by decide)] at H; exact H
                          clear H
                          have H := H1
                          clear H1
                          obtain rfl := Option.some.inj H
                          have p260 : 0 ≤ (x40_2 : Int) := of_decide_eq_true (by first | (with_reducible assumption) | assumption)
                          have q260 : x40_2 < (l0_5.length : Int) := of_decide_eq_true (by first | (with_reducible assumption) | assumption)
                          obtain ⟨ad260, e260, hx260_0, hx260_1, hx260_2⟩ := at_T60 HR0_5.out x40_2 p260 q260
                          cases e260
                          replace hx260_0 := (HB.out.cell (World.block_lt_of_cell? w _ hx260_0)).trans hx260_0
                          replace hx260_1 := (HB.out.cell (World.block_lt_of_cell? w _ hx260_1)).trans hx260_1
                          replace hx260_2 := (HB.out.cell (World.block_lt_of_cell? w _ hx260_2)).trans hx260_2
                          replace p260 := eq_true p260
                          replace q260 := eq_true q260
                          go_wp2_with (first | ((with_reducible refine gate_dst (N := 5) rfl ?_); (try (refine gate_guard (by rfl) ?_; dsimp only)); refine box_event ?hg (N := 5) ?hd (cs := #[.int .u64 0, .int .u64 0, .string (⟨#[]⟩ : ByteArray)]) (t := 60) ?hr ?_; (case hd => rfl); (case hg => rfl); (case hr => first | (go_simp; done) | (go_simp; rfl)); intro gb261 hg w87 hbox hb; have n0_ := Aside0.mk (blk_below (g := gb258) (o := .cells #[.int .i64 a0_0, .int .u64 a0_1, .int .u64 a0_2, .slice A0_3 l0_3.length c0_3, .int .i64 a0_4, .slice (some ad260) l0_5.length c0_5] 46 (0, 0)) (by (with_reducible repeat (first | refine blk_drewN ?_ _ | refine blk_drew ?_ | refine blk_alloc ?_ _)); exact BK258.out) hb); have n1_ := Aside0.mk (blk_below (g := gb259) (o := .cells #[.int .u64 x260000_2, .string x260001_2] 121 (0, 0)) (by (with_reducible repeat (first | refine blk_drewN ?_ _ | refine blk_drew ?_ | refine blk_alloc ?_ _)); exact BK259.out) hb); have n2_ := Aside0.mk (below_step (by repeat (first | (with_reducible first | exact HB.out | apply below_alloc | apply pw_below_drewN | apply below_drew1 | refine below_set ?_ GE258.out | refine below_set ?_ GE259.out) | exact HB.out)) hb); have n3_ := Aside0.mk (hbox); have n4_ := Aside0.mk ((by rw [hg]; exact (below_size (by repeat (first | (with_reducible first | exact HB.out | apply below_alloc | apply pw_below_drewN | apply below_drew1 | refine below_set ?_ GE258.out | refine below_set ?_ GE259.out) | exact HB.out))) : w.heap.size ≤ gb261)); have n5_ := Aside0.mk ((by rw [hg]; exact (below_size (by repeat (first | (with_reducible first | exact HB.out | apply below_alloc | apply pw_below_drewN | apply below_drew1 | refine below_set ?_ GE258.out | refine below_set ?_ GE259.out) | exact HB.out))) : w.heap.size ≤ gb261)); have n6_ := Aside0.mk ((by rw [hg]; exact Nat.ne_of_lt (blk_lt (g := gb258) (o := .cells #[.int .i64 a0_0, .int .u64 a0_1, .int .u64 a0_2, .slice A0_3 l0_3.length c0_3, .int .i64 a0_4, .slice (some ad260) l0_5.length c0_5] 46 (0, 0)) (by (with_reducible repeat (first | refine blk_drewN ?_ _ | refine blk_drew ?_ | refine blk_alloc ?_ _)); exact BK258.out)) : gb258 ≠ gb261)); have n7_ := Aside0.mk ((by rw [hg]; exact Nat.ne_of_gt (blk_lt (g := gb258) (o := .cells #[.int .i64 a0_0, .int .u64 a0_1, .int .u64 a0_2, .slice A0_3 l0_3.length c0_3, .int .i64 a0_4, .slice (some ad260) l0_5.length c0_5] 46 (0, 0)) (by (with_reducible repeat (first | refine blk_drewN ?_ _ | refine blk_drew ?_ | refine blk_alloc ?_ _)); exact BK258.out)) : gb261 ≠ gb258)); have n8_ := Aside0.mk ((by rw [hg]; exact Nat.ne_of_lt (blk_lt (g := gb259) (o := .cells #[.int .u64 x260000_2, .string x260001_2] 121 (0, 0)) (by (with_reducible repeat (first | refine blk_drewN ?_ _ | refine blk_drew ?_ | refine blk_alloc ?_ _)); exact BK259.out)) : gb259 ≠ gb261)); have n9_ := Aside0.mk ((by rw [hg]; exact Nat.ne_of_gt (blk_lt (g := gb259) (o := .cells #[.int .u64 x260000_2, .string x260001_2] 121 (0, 0)) (by (with_reducible repeat (first | refine blk_drewN ?_ _ | refine blk_drew ?_ | refine blk_alloc ?_ _)); exact BK259.out)) : gb261 ≠ gb259)); clear BK258; clear BK259; clear HB; have BK258 := n0_; have BK259 := n1_; have HB := n2_; have BK261 := n3_; have GW261 := n4_; have GE261 := n5_; have NB258_261 := n6_; have NB261_258 := n7_; have NB259_261 := n8_; have NB261_259 := n9_; clear n0_ n1_ n2_ n3_ n4_ n5_ n6_ n7_ n8_ n9_; clear hb hbox hg; have hnb88 := NB261_258.out; have hnc88 := NB258_261.out; have hnb89 := NB261_259.out; have hnc89 := NB259_261.out; have hcz90_0 : w87.cell? ⟨gb261, 0, none⟩ = some (.int .u64 0) := (blk_cell BK261.out 0).trans rfl; have hcz90_1 : w87.cell? ⟨gb261, 1, none⟩ = some (.int .u64 0) := (blk_cell BK261.out 1).trans rfl; have hcz90_2 : w87.cell? ⟨gb261, 2, none⟩ = some (.string (⟨#[]⟩ : ByteArray)) := (blk_cell BK261.out 2).trans rfl; have hfz90_0 := blk_frozen BK261.out 0; have hfz90_1 := blk_frozen BK261.out 1; have hfz90_2 := blk_frozen BK261.out 2) | ((with_reducible refine gate_dst (N := 6) rfl ?_); (try (refine gate_guard (by rfl) ?_; dsimp only)); refine box_event ?hg (N := 6) ?hd (cs := #[.int .u64 0, .string (⟨#[]⟩ : ByteArray)]) (t := 121) ?hr ?_; (case hd => rfl); (case hg => rfl); (case hr => first | (go_simp; done) | (go_simp; rfl)); intro gb262 hg w91 hbox hb; have n0_ := Aside0.mk (blk_below (g := gb258) (o := .cells #[.int .i64 a0_0, .int .u64 a0_1, .int .u64 a0_2, .slice A0_3 l0_3.length c0_3, .int .i64 a0_4, .slice (some ad260) l0_5.length c0_5] 46 (0, 0)) (by (with_reducible repeat (first | refine blk_drewN ?_ _ | refine blk_drew ?_ | refine blk_alloc ?_ _)); refine blk_far ?_ NB258_261.out _; (with_reducible repeat (first | refine blk_drewN ?_ _ | refine blk_drew ?_ | refine blk_alloc ?_ _)); refine blk_far ?_ NB258_261.out _; (with_reducible repeat (first | refine blk_drewN ?_ _ | refine blk_drew ?_ | refine blk_alloc ?_ _)); refine blk_far ?_ NB258_261.out _; (with_reducible repeat (first | refine blk_drewN ?_ _ | refine blk_drew ?_ | refine blk_alloc ?_ _)); exact BK258.out) hb); have n1_ := Aside0.mk (blk_below (g := gb259) (o := .cells #[.int .u64 x260000_2, .string x260001_2] 121 (0, 0)) (by (with_reducible repeat (first | refine blk_drewN ?_ _ | refine blk_drew ?_ | refine blk_alloc ?_ _)); refine blk_far ?_ NB259_261.out _; (with_reducible repeat (first | refine blk_drewN ?_ _ | refine blk_drew ?_ | refine blk_alloc ?_ _)); refine blk_far ?_ NB259_261.out _; (with_reducible repeat (first | refine blk_drewN ?_ _ | refine blk_drew ?_ | refine blk_alloc ?_ _)); refine blk_far ?_ NB259_261.out _; (with_reducible repeat (first | refine blk_drewN ?_ _ | refine blk_drew ?_ | refine blk_alloc ?_ _)); exact BK259.out) hb); have n2_ := Aside0.mk (blk_below (g := gb261) (o := .cells #[.int .u64 ((rd_T60 l0_5 x40_2).f0), .int .u64 ((rd_T60 l0_5 x40_2).f1), .string ((rd_T60 l0_5 x40_2).f2)] 60 (0, 0)) (by (with_reducible repeat (first | refine blk_drewN ?_ _ | refine blk_drew ?_ | refine blk_alloc ?_ _)); refine blk_put (cs := #[.int .u64 ((rd_T60 l0_5 x40_2).f0), .int .u64 ((rd_T60 l0_5 x40_2).f1), .string (⟨#[]⟩ : ByteArray)]) ?_ 2 _ rfl; (with_reducible repeat (first | refine blk_drewN ?_ _ | refine blk_drew ?_ | refine blk_alloc ?_ _)); refine blk_put (cs := #[.int .u64 ((rd_T60 l0_5 x40_2).f0), .int .u64 0, .string (⟨#[]⟩ : ByteArray)]) ?_ 1 _ rfl; (with_reducible repeat (first | refine blk_drewN ?_ _ | refine blk_drew ?_ | refine blk_alloc ?_ _)); refine blk_put (cs := #[.int .u64 0, .int .u64 0, .string (⟨#[]⟩ : ByteArray)]) ?_ 0 _ rfl; (with_reducible repeat (first | refine blk_drewN ?_ _ | refine blk_drew ?_ | refine blk_alloc ?_ _)); exact BK261.out) hb); have n3_ := Aside0.mk (below_step (by repeat (first | (with_reducible first | exact HB.out | apply below_alloc | apply pw_below_drewN | apply below_drew1 | refine below_set ?_ GE258.out | refine below_set ?_ GE259.out | refine below_set ?_ GE261.out) | exact HB.out)) hb); have n4_ := Aside0.mk (hbox); have n5_ := Aside0.mk ((by rw [hg]; exact (below_size (by repeat (first | (with_reducible first | exact HB.out | apply below_alloc | apply pw_below_drewN | apply below_drew1 | refine below_set ?_ GE258.out | refine below_set ?_ GE259.out | refine below_set ?_ GE261.out) | exact HB.out))) : w.heap.size ≤ gb262)); have n6_ := Aside0.mk ((by rw [hg]; exact (below_size (by repeat (first | (with_reducible first | exact HB.out | apply below_alloc | apply pw_below_drewN | apply below_drew1 | refine below_set ?_ GE258.out | refine below_set ?_ GE259.out | refine below_set ?_ GE261.out) | exact HB.out))) : w.heap.size ≤ gb262)); have n7_ := Aside0.mk ((by rw [hg]; exact Nat.ne_of_lt (blk_lt (g := gb258) (o := .cells #[.int .i64 a0_0, .int .u64 a0_1, .int .u64 a0_2, .slice A0_3 l0_3.length c0_3, .int .i64 a0_4, .slice (some ad260) l0_5.length c0_5] 46 (0, 0)) (by (with_reducible repeat (first | refine blk_drewN ?_ _ | refine blk_drew ?_ | refine blk_alloc ?_ _)); refine blk_far ?_ NB258_261.out _; (with_reducible repeat (first | refine blk_drewN ?_ _ | refine blk_drew ?_ | refine blk_alloc ?_ _)); refine blk_far ?_ NB258_261.out _; (with_reducible repeat (first | refine blk_drewN ?_ _ | refine blk_drew ?_ | refine blk_alloc ?_ _)); refine blk_far ?_ NB258_261.out _; (with_reducible repeat (first | refine blk_drewN ?_ _ | refine blk_drew ?_ | refine blk_alloc ?_ _)); exact BK258.out)) : gb258 ≠ gb262)); have n8_ := Aside0.mk ((by rw [hg]; exact Nat.ne_of_gt (blk_lt (g := gb258) (o := .cells #[.int .i64 a0_0, .int .u64 a0_1, .int .u64 a0_2, .slice A0_3 l0_3.length c0_3, .int .i64 a0_4, .slice (some ad260) l0_5.length c0_5] 46 (0, 0)) (by (with_reducible repeat (first | refine blk_drewN ?_ _ | refine blk_drew ?_ | refine blk_alloc ?_ _)); refine blk_far ?_ NB258_261.out _; (with_reducible repeat (first | refine blk_drewN ?_ _ | refine blk_drew ?_ | refine blk_alloc ?_ _)); refine blk_far ?_ NB258_261.out _; (with_reducible repeat (first | refine blk_drewN ?_ _ | refine blk_drew ?_ | refine blk_alloc ?_ _)); refine blk_far ?_ NB258_261.out _; (with_reducible repeat (first | refine blk_drewN ?_ _ | refine blk_drew ?_ | refine blk_alloc ?_ _)); exact BK258.out)) : gb262 ≠ gb258)); have n9_ := Aside0.mk ((by rw [hg]; exact Nat.ne_of_lt (blk_lt (g := gb259) (o := .cells #[.int .u64 x260000_2, .string x260001_2] 121 (0, 0)) (by (with_reducible repeat (first | refine blk_drewN ?_ _ | refine blk_drew ?_ | refine blk_alloc ?_ _)); refine blk_far ?_ NB259_261.out _; (with_reducible repeat (first | refine blk_drewN ?_ _ | refine blk_drew ?_ | refine blk_alloc ?_ _)); refine blk_far ?_ NB259_261.out _; (with_reducible repeat (first | refine blk_drewN ?_ _ | refine blk_drew ?_ | refine blk_alloc ?_ _)); refine blk_far ?_ NB259_261.out _; (with_reducible repeat (first | refine blk_drewN ?_ _ | refine blk_drew ?_ | refine blk_alloc ?_ _)); exact BK259.out)) : gb259 ≠ gb262)); have n10_ := Aside0.mk ((by rw [hg]; exact Nat.ne_of_gt (blk_lt (g := gb259) (o := .cells #[.int .u64 x260000_2, .string x260001_2] 121 (0, 0)) (by (with_reducible repeat (first | refine blk_drewN ?_ _ | refine blk_drew ?_ | refine blk_alloc ?_ _)); refine blk_far ?_ NB259_261.out _; (with_reducible repeat (first | refine blk_drewN ?_ _ | refine blk_drew ?_ | refine blk_alloc ?_ _)); refine blk_far ?_ NB259_261.out _; (with_reducible repeat (first | refine blk_drewN ?_ _ | refine blk_drew ?_ | refine blk_alloc ?_ _)); refine blk_far ?_ NB259_261.out _; (with_reducible repeat (first | refine blk_drewN ?_ _ | refine blk_drew ?_ | refine blk_alloc ?_ _)); exact BK259.out)) : gb262 ≠ gb259)); have n11_ := Aside0.mk ((by rw [hg]; exact Nat.ne_of_lt (blk_lt (g := gb261) (o := .cells #[.int .u64 ((rd_T60 l0_5 x40_2).f0), .int .u64 ((rd_T60 l0_5 x40_2).f1), .string ((rd_T60 l0_5 x40_2).f2)] 60 (0, 0)) (by (with_reducible repeat (first | refine blk_drewN ?_ _ | refine blk_drew ?_ | refine blk_alloc ?_ _)); refine blk_put (cs := #[.int .u64 ((rd_T60 l0_5 x40_2).f0), .int .u64 ((rd_T60 l0_5 x40_2).f1), .string (⟨#[]⟩ : ByteArray)]) ?_ 2 _ rfl; (with_reducible repeat (first | refine blk_drewN ?_ _ | refine blk_drew ?_ | refine blk_alloc ?_ _)); refine blk_put (cs := #[.int .u64 ((rd_T60 l0_5 x40_2).f0), .int .u64 0, .string (⟨#[]⟩ : ByteArray)]) ?_ 1 _ rfl; (with_reducible repeat (first | refine blk_drewN ?_ _ | refine blk_drew ?_ | refine blk_alloc ?_ _)); refine blk_put (cs := #[.int .u64 0, .int .u64 0, .string (⟨#[]⟩ : ByteArray)]) ?_ 0 _ rfl; (with_reducible repeat (first | refine blk_drewN ?_ _ | refine blk_drew ?_ | refine blk_alloc ?_ _)); exact BK261.out)) : gb261 ≠ gb262)); have n12_ := Aside0.mk ((by rw [hg]; exact Nat.ne_of_gt (blk_lt (g := gb261) (o := .cells #[.int .u64 ((rd_T60 l0_5 x40_2).f0), .int .u64 ((rd_T60 l0_5 x40_2).f1), .string ((rd_T60 l0_5 x40_2).f2)] 60 (0, 0)) (by (with_reducible repeat (first | refine blk_drewN ?_ _ | refine blk_drew ?_ | refine blk_alloc ?_ _)); refine blk_put (cs := #[.int .u64 ((rd_T60 l0_5 x40_2).f0), .int .u64 ((rd_T60 l0_5 x40_2).f1), .string (⟨#[]⟩ : ByteArray)]) ?_ 2 _ rfl; (with_reducible repeat (first | refine blk_drewN ?_ _ | refine blk_drew ?_ | refine blk_alloc ?_ _)); refine blk_put (cs := #[.int .u64 ((rd_T60 l0_5 x40_2).f0), .int .u64 0, .string (⟨#[]⟩ : ByteArray)]) ?_ 1 _ rfl; (with_reducible repeat (first | refine blk_drewN ?_ _ | refine blk_drew ?_ | refine blk_alloc ?_ _)); refine blk_put (cs := #[.int .u64 0, .int .u64 0, .string (⟨#[]⟩ : ByteArray)]) ?_ 0 _ rfl; (with_reducible repeat (first | refine blk_drewN ?_ _ | refine blk_drew ?_ | refine blk_alloc ?_ _)); exact BK261.out)) : gb262 ≠ gb261)); clear BK258; clear BK259; clear BK261; clear HB; have BK258 := n0_; have BK259 := n1_; have BK261 := n2_; have HB := n3_; have BK262 := n4_; have GW262 := n5_; have GE262 := n6_; have NB258_262 := n7_; have NB262_258 := n8_; have NB259_262 := n9_; have NB262_259 := n10_; have NB261_262 := n11_; have NB262_261 := n12_; clear n0_ n1_ n2_ n3_ n4_ n5_ n6_ n7_ n8_ n9_ n10_ n11_ n12_; clear hb hbox hg; have hnb92 := NB262_258.out; have hnc92 := NB258_262.out; have hnb93 := NB262_259.out; have hnc93 := NB259_262.out; have hnb94 := NB262_261.out; have hnc94 := NB261_262.out; have hcz95_0 : w91.cell? ⟨gb262, 0, none⟩ = some (.int .u64 0) := (blk_cell BK262.out 0).trans rfl; have hcz95_1 : w91.cell? ⟨gb262, 1, none⟩ = some (.string (⟨#[]⟩ : ByteArray)) := (blk_cell BK262.out 1).trans rfl; have hfz95_0 := blk_frozen BK262.out 0; have hfz95_1 := blk_frozen BK262.out 1; have hcz96_0 : w91.cell? ⟨gb261, 0, none⟩ = some (.int .u64 ((rd_T60 l0_5 x40_2).f0)) := (blk_cell BK261.out 0).trans rfl; have hcz96_1 : w91.cell? ⟨gb261, 1, none⟩ = some (.int .u64 ((rd_T60 l0_5 x40_2).f1)) := (blk_cell BK261.out 1).trans rfl; have hcz96_2 : w91.cell? ⟨gb261, 2, none⟩ = some (.string ((rd_T60 l0_5 x40_2).f2)) := (blk_cell BK261.out 2).trans rfl; have hfz96_0 := blk_frozen BK261.out 0; have hfz96_1 := blk_frozen BK261.out 1; have hfz96_2 := blk_frozen BK261.out 2) | (go_at_call 73; (with_reducible refine (image_goodKey.calls ((rd_T60 l0_5 x40_2).f2) false _ A55.out).mono ?_); rintro e w' ⟨rfl, ⟨nd, rfl⟩⟩))
                          go_ret
                          exact ⟨by first | rfl | (simp [errW_none, errW_some] <;> rfl) | (simp [*, errW_none, errW_some] <;> rfl), by repeat (first | (with_reducible first | exact HB.out | apply below_alloc | apply pw_below_drewN | apply below_drew1 | refine below_set ?_ GE258.out | refine below_set ?_ GE259.out | refine below_set ?_ GE261.out | refine below_set ?_ GE262.out) | exact HB.out)⟩
                · rw [if_neg c21] at H
                  exact absurd H (by simp)
              · rw [if_neg c20] at H
                exact absurd H (by simp)
            · rw [if_neg c19] at H
              have c19b0 : decide (x40_2 < (l0_5.length : Int)) = false := decide_eq_false c19
              clear c19
              obtain rfl := Option.some.inj H
              go_wp2
              go_ret
              exact ⟨by first | rfl | (simp [errW_none, errW_some] <;> rfl) | (simp [*, errW_none, errW_some] <;> rfl), by repeat (first | (with_reducible first | exact HB.out | apply below_alloc | apply pw_below_drewN | apply below_drew1 | refine below_set ?_ GE258.out | refine below_set ?_ GE259.out) | exact HB.out)⟩
end Go.Proofs.YtejjidggnnhgjaaDoor.PImg
/- The closure of DecodeDelta of layer 12, by the program. -/
set_option linter.unusedVariables false
set_option linter.unusedSimpArgs false
namespace Go.Proofs.YtejjidggnnhgjaaDoor.HImCe
open Go.RowKit Go.Proofs.YtejjidggnnhgjaaDoor.PImg Go.Proofs.YtejjidggnnhgjaaDoor.HBase Go.Proofs.YtejjidggnnhgjaaDoor.HBlob Go.Proofs.YtejjidggnnhgjaaDoor.HSum Go.Proofs.YtejjidggnnhgjaaDoor.HCk Go.Proofs.YtejjidggnnhgjaaDoor.HImgW Go.Proofs.YtejjidggnnhgjaaDoor.HImgR Go.Proofs.YtejjidggnnhgjaaDoor.HImgO Go.Proofs.YtejjidggnnhgjaaDoor.HImP Go.Proofs.YtejjidggnnhgjaaDoor.HImD Go.Proofs.YtejjidggnnhgjaaDoor.HImR2 Go.Proofs.YtejjidggnnhgjaaDoorW.PrintWords Go.Proofs.YtejjidggnnhgjaaDoorW.PrintLast Go.Proofs.YtejjidggnnhgjaaDoorW.PrintMore Go.Proofs.YtejjidggnnhgjaaDoor.HCore
def cells (r : Int × Int × List SE) (u : Value) : Array Value := #[.int .i64 r.1, .int .u64 0, .int .u64 0, .slice none 0 0, .int .i64 r.2.1, u]
/-- What the closure leaves. -/
def Left (w : World) (pb rb : Nat) (s : ByteArray) (D : Option ((Int × Int × List SE) × Int)) (e : Ending) (w' : World) : Prop :=
  Two pb rb w w' ∧ match D with
  | some rq => e = .returned (.tuple #[]) ∧ w'.heap[rb]? = some (Rd s rq.2) ∧ ∃ u, w'.heap[pb]? = some (.cells (cells rq.1 u) 46 (0, 0)) ∧ Kd.R k60 60 w' w.heap.size (fun _ => True) u rq.1.2.2
  | none => e = gives
theorem Left.gone {w w' : World} {pb rb : Nat} {s : ByteArray} {D : Option ((Int × Int × List SE) × Int)} (h : Two pb rb w w') (hD : D = none) : Left w pb rb s D gives w' := by subst hD; exact ⟨h, rfl⟩
theorem Left.read {w w' : World} {pb rb : Nat} {s : ByteArray} {D : Option ((Int × Int × List SE) × Int)} {r : Int × Int × List SE} {q : Int} {u : Value} (h : Two pb rb w w') (hD : D = some (r, q)) (h1 : w'.heap[rb]? = some (Rd s q)) (h2 : w'.heap[pb]? = some (.cells (cells r u) 46 (0, 0))) (h3 : Kd.R k60 60 w' w.heap.size (fun _ => True) u r.2.2) : Left w pb rb s D (.returned (.tuple #[])) w' := by subst hD; exact ⟨h, rfl, h1, u, h2, h3⟩
set_option maxRecDepth 100000 in
set_option maxHeartbeats 16000000 in
theorem inner (gd : ∀ (id gen : Int) (l : List SE), l.length ≤ 65536 → ∃ k, image_goodDelta.f k id 0 0 ([] : List SD) gen l = some (gdE id gen l)) (w : World) (pb rb : Nat) (s : ByteArray) (hs : s.size ≤ 4611686018427387904) (hpb : w.heap[pb]? = some (.cells #[.int .i64 0, .int .u64 0, .int .u64 0, .slice none 0 0, .int .i64 0, .slice none 0 0] 46 (0, 0))) (hrb : w.heap[rb]? = some (Rd s 0)) (hne : pb ≠ rb) :
    Calls Tryd.prog 53 #[.pointer (some ⟨rb, 0, none⟩), .pointer (some ⟨pb, 0, none⟩)] w fun e w' => Left w pb rb s (dcE s) e w' := by
  have HT : Aside0 (St k60 60 46 w pb rb rb s 0 #[.int .i64 0, .int .u64 0, .int .u64 0, .slice none 0 0, .int .i64 0, .slice none 0 0] (.slice none 0 0) [] w) := ⟨⟨Two.refl _ _ _, hpb, hrb, Kd.R_nil _ _ _ _ _, ⟨_, hpb⟩, ⟨_, hrb⟩, hne⟩⟩
  have HS := Aside0.mk hs
  have GD := Aside0.mk gd
  have hD : dcE s = _ := rfl
  conv at hD => rhs; unfold dcE
  have HD := Aside0.mk hD
  clear hD hpb hrb hs gd
  go_enter Tryd.func53, Tryd.ntmps53
  go_wp2_with fail
  rcases hr_id : nm s 0 99999999 with _ | ⟨id, q_id⟩
  · have HR := Aside0.mk hr_id
    have hD := HD.out
    rw [hr_id, Option.bind_none] at hD
    have HD := Aside0.mk hD
    clear hD hr_id
    refine (num_gone rb s 0 _ HT.out.rdr HS.out _ HR.out).mono ?_
    rintro e wg ⟨he, hd⟩
    unfold gives at he
    subst he
    have HL := Aside0.mk (Left.gone (s := s) (HT.out.drawn hd).two HD.out)
    clear hd
    go_wp2
    exact ⟨rfl, HL.out⟩
  obtain ⟨id_0, id_1, id_2, _⟩ := nm_drop hr_id
  have HR := Aside0.mk hr_id
  have hD := HD.out
  rw [hr_id, Option.bind_some] at hD
  simp only at hD
  have HD := Aside0.mk hD
  clear hD hr_id
  refine (num_ok rb s 0 _ HT.out.rdr HS.out _ _ _ HR.out).mono ?_
  rintro e w1 ⟨rfl, ht, hg⟩
  have HT := Aside0.mk (HT.out.reads ht hg)
  clear hg HR
  clear ht
  have c0 : _ = some (Value.int .i64 0) := (blk_cell HT.out.pair 0).trans rfl
  have c1 : _ = some (Value.int .u64 0) := (blk_cell HT.out.pair 1).trans rfl
  have c2 : _ = some (Value.int .u64 0) := (blk_cell HT.out.pair 2).trans rfl
  have c3 : _ = some (Value.slice none 0 0) := (blk_cell HT.out.pair 3).trans rfl
  have c4 : _ = some (Value.int .i64 0) := (blk_cell HT.out.pair 4).trans rfl
  have c5 : _ = some (Value.slice none 0 0) := (blk_cell HT.out.pair 5).trans rfl
  have f0 := blk_frozen HT.out.pair 0
  have HT : Aside0 (St k60 60 46 w pb rb rb s q_id #[.int .i64 id, .int .u64 0, .int .u64 0, .slice none 0 0, .int .i64 0, .slice none 0 0] (.slice none 0 0) [] (w1.setCell ⟨pb, 0, none⟩ (.int .i64 id))) := ⟨HT.out.put 0 _⟩
  go_wp2_with fail
  rcases hr_gen : nm s (q_id) 99999999 with _ | ⟨gen, q_gen⟩
  · have HR := Aside0.mk hr_gen
    have hD := HD.out
    rw [hr_gen, Option.bind_none] at hD
    have HD := Aside0.mk hD
    clear hD hr_gen
    refine (num_gone rb s (q_id) _ HT.out.rdr HS.out _ HR.out).mono ?_
    rintro e wg ⟨he, hd⟩
    unfold gives at he
    subst he
    have HL := Aside0.mk (Left.gone (s := s) (HT.out.drawn hd).two HD.out)
    clear hd
    go_wp2
    exact ⟨rfl, HL.out⟩
  obtain ⟨gen_0, gen_1, gen_2, _⟩ := nm_drop hr_gen
  have HR := Aside0.mk hr_gen
  have hD := HD.out
  rw [hr_gen, Option.bind_some] at hD
  simp only at hD
  have HD := Aside0.mk hD
  clear hD hr_gen
  clear c0 c1 c2 c3 c4 c5 f0
  refine (num_ok rb s (q_id) _ HT.out.rdr HS.out _ _ _ HR.out).mono ?_
  rintro e w2 ⟨rfl, ht, hg⟩
  have HT := Aside0.mk (HT.out.reads ht hg)
  clear hg HR
  clear ht
  have c0 : _ = some (Value.int .i64 id) := (blk_cell HT.out.pair 0).trans rfl
  have c1 : _ = some (Value.int .u64 0) := (blk_cell HT.out.pair 1).trans rfl
  have c2 : _ = some (Value.int .u64 0) := (blk_cell HT.out.pair 2).trans rfl
  have c3 : _ = some (Value.slice none 0 0) := (blk_cell HT.out.pair 3).trans rfl
  have c4 : _ = some (Value.int .i64 0) := (blk_cell HT.out.pair 4).trans rfl
  have c5 : _ = some (Value.slice none 0 0) := (blk_cell HT.out.pair 5).trans rfl
  have f4 := blk_frozen HT.out.pair 4
  have HT : Aside0 (St k60 60 46 w pb rb rb s q_gen #[.int .i64 id, .int .u64 0, .int .u64 0, .slice none 0 0, .int .i64 gen, .slice none 0 0] (.slice none 0 0) [] (w2.setCell ⟨pb, 4, none⟩ (.int .i64 gen))) := ⟨HT.out.put 4 _⟩
  go_wp2_with fail
  rcases hr_m : nm s (q_gen) 65536 with _ | ⟨m, q_m⟩
  · have HR := Aside0.mk hr_m
    have hD := HD.out
    rw [hr_m, Option.bind_none] at hD
    have HD := Aside0.mk hD
    clear hD hr_m
    refine (num_gone rb s (q_gen) _ HT.out.rdr HS.out _ HR.out).mono ?_
    rintro e wg ⟨he, hd⟩
    unfold gives at he
    subst he
    have HL := Aside0.mk (Left.gone (s := s) (HT.out.drawn hd).two HD.out)
    clear hd
    go_wp2
    exact ⟨rfl, HL.out⟩
  obtain ⟨m_0, m_1, m_2, _⟩ := nm_drop hr_m
  have HR := Aside0.mk hr_m
  have hD := HD.out
  rw [hr_m, Option.bind_some] at hD
  simp only at hD
  have HD := Aside0.mk hD
  clear hD hr_m
  clear c0 c1 c2 c3 c4 c5 f4
  refine (num_ok rb s (q_gen) _ HT.out.rdr HS.out _ _ _ HR.out).mono ?_
  rintro e w3 ⟨rfl, ht, hg⟩
  have HT := Aside0.mk (HT.out.reads ht hg)
  clear hg HR
  clear ht
  have c0 : _ = some (Value.int .i64 id) := (blk_cell HT.out.pair 0).trans rfl
  have c1 : _ = some (Value.int .u64 0) := (blk_cell HT.out.pair 1).trans rfl
  have c2 : _ = some (Value.int .u64 0) := (blk_cell HT.out.pair 2).trans rfl
  have c3 : _ = some (Value.slice none 0 0) := (blk_cell HT.out.pair 3).trans rfl
  have c4 : _ = some (Value.int .i64 gen) := (blk_cell HT.out.pair 4).trans rfl
  have c5 : _ = some (Value.slice none 0 0) := (blk_cell HT.out.pair 5).trans rfl
  obtain ⟨m, rfl⟩ := Int.eq_ofNat_of_zero_le m_0
  rw [Int.toNat_natCast] at HD
  go_wp2
  clear c0 c1 c2 c3 c4 c5
  have mm : m ≤ 65536 := by omega
  clear m_0 m_1 m_2
  go_loopw [3, 4] (fun v3 v4 wr => ∃ (m : Nat) (p last : Int) (u : Value) (l : List SE), v4 = .int .u64 (m : Int) ∧ v3 = .int .u64 last ∧ 0 ≤ last ∧ last ≤ 4611686018427387903 ∧ l.length + m ≤ 65536 ∧ Aside0 (St k60 60 46 w pb rb rb s p #[.int .i64 id, .int .u64 0, .int .u64 0, .slice none 0 0, .int .i64 gen, u] u l wr) ∧ Aside0 (dcE s = (rn (rcE s) nxE m last p l).bind (fun r => if gdE id gen r.1 = true then some ((id, gen, r.1), r.2) else none))) (fun _ v4 _ => (intOf v4).toNat)
  case atStart => exact ⟨m, q_m, 0, _, [], rfl, rfl, by omega, by omega, by rw [List.length_nil]; omega, HT, HD⟩
  case round =>
    clear HT HD mm
    obtain ⟨m, p, last, u, l, rfl, rfl, last_0, last_1, hl, HT, HD⟩ := hrel
    rcases m with _ | d
    · have hD := HD.out
      simp only [rn, Option.bind_some] at hD
      have HD := Aside0.mk hD
      clear hD
      obtain ⟨A, c, rfl, hc, hC⟩ := Kd.R_reads HT.out.own
      have HC := Aside0.mk hC
      clear hC
      have c0 : _ = some (Value.int .i64 id) := (blk_cell HT.out.pair 0).trans rfl
      have c1 : _ = some (Value.int .u64 0) := (blk_cell HT.out.pair 1).trans rfl
      have c2 : _ = some (Value.int .u64 0) := (blk_cell HT.out.pair 2).trans rfl
      have c3 : _ = some (Value.slice none 0 0) := (blk_cell HT.out.pair 3).trans rfl
      have c4 : _ = some (Value.int .i64 gen) := (blk_cell HT.out.pair 4).trans rfl
      have c5 : _ = some (Value.slice A l.length c) := (blk_cell HT.out.pair 5).trans rfl
      cases hgd : gdE id gen l
      · have hD := HD.out
        rw [hgd] at hD
        simp only [Bool.false_eq_true, if_false] at hD
        have HD := Aside0.mk hD
        clear hD
        obtain ⟨k, hk⟩ := GD.out id gen l (by omega)
        rw [hgd] at hk
        have HK := Aside0.mk hk
        clear hk hgd
        go_wp2_with fail
        clear c0 c1 c2 c3 c4 c5
        refine (image_goodDelta.calls k id 0 0 none 0 [] gen A c l false _ (Kd.C_nil _ _) (Nat.le_refl _) HC.out hc HK.out).mono ?_
        rintro e wq ⟨rfl, hb⟩
        have HT := Aside0.mk (HT.out.below hb)
        clear hb HC HK
        go_wp2_with fail
        refine (need_gone _).mono ?_
        rintro e wz ⟨he, rfl⟩
        unfold gives at he
        subst he
        have HL := Aside0.mk (Left.gone (s := s) HT.out.two HD.out)
        go_wp2
        exact ⟨rfl, HL.out⟩
      · have hD := HD.out
        rw [hgd] at hD
        simp only [if_pos] at hD
        have HD := Aside0.mk hD
        clear hD
        obtain ⟨k, hk⟩ := GD.out id gen l (by omega)
        rw [hgd] at hk
        have HK := Aside0.mk hk
        clear hk hgd
        go_wp2_with fail
        clear c0 c1 c2 c3 c4 c5
        refine (image_goodDelta.calls k id 0 0 none 0 [] gen A c l true _ (Kd.C_nil _ _) (Nat.le_refl _) HC.out hc HK.out).mono ?_
        rintro e wq ⟨rfl, hb⟩
        have HT := Aside0.mk (HT.out.below hb)
        clear hb HC HK
        go_wp2_with fail
        refine (need_ok _).mono ?_
        rintro e wz ⟨rfl, rfl⟩
        go_wp2
        go_end0
        exact Left.read HT.out.two HD.out HT.out.rdr HT.out.pair (Kd.R_mono HT.out.own (fun _ _ => trivial))
    have hD := HD.out
    simp only [rn, rcE, Option.bind_assoc, Option.bind_some] at hD
    have HD := Aside0.mk hD
    clear hD
    rw [show ((d + 1 : Nat) : Int) = (d : Int) + 1 by omega]
    have c0 : _ = some (Value.int .i64 id) := (blk_cell HT.out.pair 0).trans rfl
    have c1 : _ = some (Value.int .u64 0) := (blk_cell HT.out.pair 1).trans rfl
    have c2 : _ = some (Value.int .u64 0) := (blk_cell HT.out.pair 2).trans rfl
    have c3 : _ = some (Value.slice none 0 0) := (blk_cell HT.out.pair 3).trans rfl
    have c4 : _ = some (Value.int .i64 gen) := (blk_cell HT.out.pair 4).trans rfl
    have c5 : _ = some u := (blk_cell HT.out.pair 5).trans rfl
    go_wp2_with fail
    rcases hr_a : nm s p (4611686018427387903 - last) with _ | ⟨a, q_a⟩
    · have HR := Aside0.mk hr_a
      have hD := HD.out
      rw [hr_a, Option.bind_none] at hD
      have HD := Aside0.mk hD
      clear hD hr_a
      refine (num_gone rb s p _ HT.out.rdr HS.out _ HR.out).mono ?_
      rintro e wg ⟨he, hd⟩
      unfold gives at he
      subst he
      have HL := Aside0.mk (Left.gone (s := s) (HT.out.drawn hd).two HD.out)
      clear hd
      go_wp2
      exact ⟨rfl, HL.out⟩
    obtain ⟨a_0, a_1, a_2, _⟩ := nm_drop hr_a
    have HR := Aside0.mk hr_a
    have hD := HD.out
    rw [hr_a, Option.bind_some] at hD
    simp only at hD
    have HD := Aside0.mk hD
    clear hD hr_a
    clear c0 c1 c2 c3 c4 c5
    refine (num_ok rb s p _ HT.out.rdr HS.out _ _ _ HR.out).mono ?_
    rintro e w4 ⟨rfl, ht, hg⟩
    have HT := Aside0.mk (HT.out.reads ht hg)
    clear hg HR
    clear ht
    have HV := Aside0.mk (heap_alloc_new w4 (.cells #[.int .u64 (last + a), .int .u64 0, .string (⟨#[]⟩ : ByteArray)] 60))
    have hnb : w.heap.size ≤ w4.heap.size := HT.out.two.size
    have hnr : w4.heap.size ≠ rb := Nat.ne_of_gt (blk_lt HT.out.rdr)
    have HT := Aside0.mk (HT.out.new (.cells #[.int .u64 (last + a), .int .u64 0, .string (⟨#[]⟩ : ByteArray)] 60))
    have c0 : _ = some (Value.int .i64 id) := (blk_cell HT.out.pair 0).trans rfl
    have c1 : _ = some (Value.int .u64 0) := (blk_cell HT.out.pair 1).trans rfl
    have c2 : _ = some (Value.int .u64 0) := (blk_cell HT.out.pair 2).trans rfl
    have c3 : _ = some (Value.slice none 0 0) := (blk_cell HT.out.pair 3).trans rfl
    have c4 : _ = some (Value.int .i64 gen) := (blk_cell HT.out.pair 4).trans rfl
    have c5 : _ = some u := (blk_cell HT.out.pair 5).trans rfl
    go_wp2_with fail
    rcases hr_b : nm s (q_a) (4611686018427387903 - (last + a)) with _ | ⟨b, q_b⟩
    · have HR := Aside0.mk hr_b
      have hD := HD.out
      rw [hr_b, Option.bind_none] at hD
      have HD := Aside0.mk hD
      clear hD hr_b
      refine (num_gone rb s (q_a) _ HT.out.rdr HS.out _ HR.out).mono ?_
      rintro e wg ⟨he, hd⟩
      unfold gives at he
      subst he
      have HL := Aside0.mk (Left.gone (s := s) (HT.out.drawn hd).two HD.out)
      clear hd
      go_wp2
      exact ⟨rfl, HL.out⟩
    obtain ⟨b_0, b_1, b_2, _⟩ := nm_drop hr_b
    have HR := Aside0.mk hr_b
    have hD := HD.out
    rw [hr_b, Option.bind_some] at hD
    simp only at hD
    have HD := Aside0.mk hD
    clear hD hr_b
    clear c0 c1 c2 c3 c4 c5
    refine (num_ok rb s (q_a) _ HT.out.rdr HS.out _ _ _ HR.out).mono ?_
    rintro e w5 ⟨rfl, ht, hg⟩
    have HT := Aside0.mk (HT.out.reads ht hg)
    clear hg HR
    have HV := Aside0.mk (ht.blk HV.out hnr)
    clear ht
    generalize w4.heap.size = nb at HV HT hnb hnr ⊢
    have y0 : _ = some (Value.int .u64 (last + a)) := (blk_cell HV.out 0).trans rfl
    have y1 : _ = some (Value.int .u64 0) := (blk_cell HV.out 1).trans rfl
    have y2 : _ = some (Value.string (⟨#[]⟩ : ByteArray)) := (blk_cell HV.out 2).trans rfl
    have g1 := blk_frozen HV.out 1
    have c0 : _ = some (Value.int .i64 id) := (blk_cell HT.out.pair 0).trans rfl
    have c1 : _ = some (Value.int .u64 0) := (blk_cell HT.out.pair 1).trans rfl
    have c2 : _ = some (Value.int .u64 0) := (blk_cell HT.out.pair 2).trans rfl
    have c3 : _ = some (Value.slice none 0 0) := (blk_cell HT.out.pair 3).trans rfl
    have c4 : _ = some (Value.int .i64 gen) := (blk_cell HT.out.pair 4).trans rfl
    have c5 : _ = some u := (blk_cell HT.out.pair 5).trans rfl
    have HV : Aside0 ((w5.setCell ⟨nb, 1, none⟩ (.int .u64 (last + a + b))).heap[nb]? = some (.cells #[.int .u64 (last + a), .int .u64 (last + a + b), .string (⟨#[]⟩ : ByteArray)] 60 (0, 0))) := ⟨(blk_set HV.out 1 (.int .u64 (last + a + b))).trans rfl⟩
    have HT := Aside0.mk (HT.out.far hnb 1 (.int .u64 (last + a + b)))
    go_wp2_with fail
    clear y0 y1 y2 g1
    clear c0 c1 c2 c3 c4 c5
    rcases hr_key : tx s (q_b) 1 160 with _ | ⟨key, q_key⟩
    · have HR := Aside0.mk hr_key
      have hD := HD.out
      rw [hr_key, Option.bind_none] at hD
      have HD := Aside0.mk hD
      clear hD hr_key
      refine (txt_gone rb s (q_b) _ HT.out.rdr HS.out _ _ HR.out).mono ?_
      rintro e wg ⟨he, hd⟩
      unfold gives at he
      subst he
      have HL := Aside0.mk (Left.gone (s := s) (HT.out.drawn hd).two HD.out)
      clear hd
      go_wp2
      exact ⟨rfl, HL.out⟩
    have HR := Aside0.mk hr_key
    have hD := HD.out
    rw [hr_key, Option.bind_some] at hD
    simp only at hD
    have HD := Aside0.mk hD
    clear hD hr_key
    refine (txt_ok rb s (q_b) _ HT.out.rdr HS.out _ _ _ _ HR.out).mono ?_
    rintro e w6 ⟨rfl, ht, hg⟩
    have HT := Aside0.mk (HT.out.reads ht hg)
    clear hg HR
    have HV := Aside0.mk (ht.blk HV.out hnr)
    clear ht
    have y0 : _ = some (Value.int .u64 (last + a)) := (blk_cell HV.out 0).trans rfl
    have y1 : _ = some (Value.int .u64 (last + a + b)) := (blk_cell HV.out 1).trans rfl
    have y2 : _ = some (Value.string (⟨#[]⟩ : ByteArray)) := (blk_cell HV.out 2).trans rfl
    have g2 := blk_frozen HV.out 2
    have c0 : _ = some (Value.int .i64 id) := (blk_cell HT.out.pair 0).trans rfl
    have c1 : _ = some (Value.int .u64 0) := (blk_cell HT.out.pair 1).trans rfl
    have c2 : _ = some (Value.int .u64 0) := (blk_cell HT.out.pair 2).trans rfl
    have c3 : _ = some (Value.slice none 0 0) := (blk_cell HT.out.pair 3).trans rfl
    have c4 : _ = some (Value.int .i64 gen) := (blk_cell HT.out.pair 4).trans rfl
    have c5 : _ = some u := (blk_cell HT.out.pair 5).trans rfl
    have HV : Aside0 ((w6.setCell ⟨nb, 2, none⟩ (.string key)).heap[nb]? = some (.cells #[.int .u64 (last + a), .int .u64 (last + a + b), .string key] 60 (0, 0))) := ⟨(blk_set HV.out 2 (.string key)).trans rfl⟩
    have HT := Aside0.mk (HT.out.far hnb 2 (.string key))
    have HW : Aside0 (∃ W, W = w6.setCell ⟨nb, 2, none⟩ (.string key)) := ⟨_, rfl⟩
    clear HW
    go_upto_region 10 with (fail)
    clear y0 y1 y2 g2
    clear c0 c1 c2 c3 c4 c5
    have y0 : _ = some (Value.int .u64 (last + a)) := (blk_cell HV.out 0).trans rfl
    have y1 : _ = some (Value.int .u64 (last + a + b)) := (blk_cell HV.out 1).trans rfl
    have y2 : _ = some (Value.string key) := (blk_cell HV.out 2).trans rfl
    have c0 : _ = some (Value.int .i64 id) := (blk_cell HT.out.pair 0).trans rfl
    have c1 : _ = some (Value.int .u64 0) := (blk_cell HT.out.pair 1).trans rfl
    have c2 : _ = some (Value.int .u64 0) := (blk_cell HT.out.pair 2).trans rfl
    have c3 : _ = some (Value.slice none 0 0) := (blk_cell HT.out.pair 3).trans rfl
    have c4 : _ = some (Value.int .i64 gen) := (blk_cell HT.out.pair 4).trans rfl
    have c5 : _ = some u := (blk_cell HT.out.pair 5).trans rfl
    have f5 := blk_frozen HT.out.pair 5
    have HTo := HT
    go_wp2_with ((with_reducible refine gate_builtin (b := .append) (xs := #[.tmp 39, .tmp 41]) rfl ?_); go_loud (at_builtin; refine Kd.R_append k60 (w0 := w6.setCell ⟨nb, 2, none⟩ (.string key)) w.heap.size rfl (.tmp 39) (.tmp 41) 44 60 (.agg #[.int .u64 0, .int .u64 0, .string ⟨#[]⟩]) 32 rfl Tryd.underlying44 info60 rfl (by decide) (by omega) u l (⟨last + a, last + a + b, key⟩ : SE) [.int .u64 (last + a), .int .u64 (last + a + b), .string key] (fun k => k ≠ nb) (fun _ => False) rfl (by first | (go_simp; done) | (go_simp; rfl)) ?aP (fun _ hk => hk.elim) ?aF ?aO ?aB ?aS ?aL ?_; (case aP => exact k60_mkM _ _ _ (⟨last + a, last + a + b, key⟩ : SE)); (case aF => exact (fun k hk => Nat.ne_of_gt (Nat.lt_of_lt_of_le (blk_lt HV.out) hk))); (case aO => exact HT.out.own); (case aB => exact Below.refl _ _); (case aS => exact HT.out.two.size); (case aL => omega); clear c0 c1 c2 c3 c4 c5 f5 y0 y1 y2; intro u' w99 ho hb hg hat; obtain ⟨A', c', rfl⟩ := Kd.R_slice ho; have HT := Aside0.mk (HT.out.more hb hg ho 5); have c5 : _ = some u := (blk_cell ((hb.block _ (blk_lt HT.out.elp.choose_spec)).trans HTo.out.pair) 5).trans rfl; have f5 := blk_frozen ((hb.block _ (blk_lt HT.out.elp.choose_spec)).trans HTo.out.pair) 5; clear ho hb hg hat))
    have hlen : (l ++ [(⟨last + a, last + a + b, key⟩ : SE)]).length = l.length + 1 := by rw [List.length_append, List.length_singleton]
    rw [hlen] at HT
    clear hlen
    go_roundw
    case rel => exact ⟨d, q_key, last + a, .slice A' (l.length + 1) c', l ++ [(⟨last + a, last + a + b, key⟩ : SE)], by go_num, rfl, by omega, by omega, by rw [List.length_append, List.length_singleton]; omega, ⟨HT.out.free⟩, HD⟩
    case measure => simp [intOf]
end Go.Proofs.YtejjidggnnhgjaaDoor.HImCe
/- DecodeDelta of layer 12, by the program. -/
set_option linter.unusedVariables false
set_option linter.unusedSimpArgs false
namespace Go.Proofs.YtejjidggnnhgjaaDoor.HImDe
open Go.RowKit Go.Proofs.YtejjidggnnhgjaaDoor.PImg Go.Proofs.YtejjidggnnhgjaaDoor.HBase Go.Proofs.YtejjidggnnhgjaaDoor.HBlob Go.Proofs.YtejjidggnnhgjaaDoor.HSum Go.Proofs.YtejjidggnnhgjaaDoor.HCk Go.Proofs.YtejjidggnnhgjaaDoor.HImgW Go.Proofs.YtejjidggnnhgjaaDoor.HImgR Go.Proofs.YtejjidggnnhgjaaDoor.HImgO Go.Proofs.YtejjidggnnhgjaaDoor.HImP Go.Proofs.YtejjidggnnhgjaaDoor.HImD Go.Proofs.YtejjidggnnhgjaaDoor.HImE Go.Proofs.YtejjidggnnhgjaaDoor.HImR2 Go.Proofs.YtejjidggnnhgjaaDoor.HImCe Go.Proofs.YtejjidggnnhgjaaDoorW.PrintWords Go.Proofs.YtejjidggnnhgjaaDoorW.PrintLast Go.Proofs.YtejjidggnnhgjaaDoorW.PrintMore Go.Proofs.YtejjidggnnhgjaaDoor.HCore
/-- What a file is read as, and the error. -/
def res (b : ByteArray) : Option (Int × Int × List SE) := if opn b ltE = 0 then (dcE (ins b)).bind fun x => if x.2 = ((ins b).size : Int) then some x.1 else none else none
def val (b : ByteArray) : Int × Int × List SE := (res b).getD (0, 0, [])
def code (b : ByteArray) : Int := if opn b ltE = 0 then (if (res b).isSome then 0 else 125) else opn b ltE
theorem out_val {b : ByteArray} (h : ¬ opn b ltE = 0) : val b = (0, 0, []) ∧ code b = opn b ltE := by unfold val code res; rw [if_neg h, if_neg h]; exact ⟨rfl, rfl⟩
theorem none_val {b : ByteArray} (h : opn b ltE = 0) (hd : dcE (ins b) = none) : val b = (0, 0, []) ∧ code b = 125 := by unfold val code res; rw [if_pos h, if_pos h, hd]; exact ⟨rfl, rfl⟩
theorem short_val {b : ByteArray} {x : (Int × Int × List SE) × Int} (h : opn b ltE = 0) (hd : dcE (ins b) = some x) (hx : ¬ x.2 = ((ins b).size : Int)) : val b = (0, 0, []) ∧ code b = 125 := by unfold val code res; rw [if_pos h, if_pos h, hd, Option.bind_some, if_neg hx]; exact ⟨rfl, rfl⟩
theorem some_val {b : ByteArray} {x : (Int × Int × List SE) × Int} (h : opn b ltE = 0) (hd : dcE (ins b) = some x) (hx : x.2 = ((ins b).size : Int)) : val b = x.1 ∧ code b = 0 := by unfold val code res; rw [if_pos h, if_pos h, hd, Option.bind_some, if_pos hx]; exact ⟨rfl, rfl⟩
theorem ins_le (b : ByteArray) (hb : b.size ≤ 140737488355328) : (ins b).size ≤ 4611686018427387904 := by
  unfold ins
  rw [← size_list, extract_list, extract_list, List.length_take, List.length_drop, List.length_take, List.drop_zero, size_list]
  omega
/-- What stands around the closure. -/
def Qc (w2 : World) (pb : Nat) (b : ByteArray) (W1 : World) (rb : Nat) (e0 : Ending) (w1 : World) : Prop :=
  Below w2.heap.size w2 W1 ∧ w2.heap.size < rb ∧ W1.heap[w2.heap.size]? = some (.cells #[.int .i64 0] 27 (0, 0)) ∧ HImCe.Left W1 pb rb (ins b) (dcE (ins b)) e0 w1
theorem left_or {w w' : World} {pb rb : Nat} {s : ByteArray} {D : Option ((Int × Int × List SE) × Int)} {e : Ending} (h : HImCe.Left w pb rb s D e w') : e = gives ∨ (e = .returned (.tuple #[]) ∧ ∃ q, w'.heap[rb]? = some (Rd s q)) := by
  obtain ⟨_, h⟩ := h
  cases D with
  | none => exact Or.inl h
  | some r => exact Or.inr ⟨h.1, _, h.2.1⟩
set_option maxRecDepth 100000 in
set_option maxHeartbeats 8000000 in
theorem dec_any (gd : ∀ (id gen : Int) (l : List SE), l.length ≤ 65536 → ∃ k, image_goodDelta.f k id 0 0 ([] : List SD) gen l = some (gdE id gen l)) (b : ByteArray) (w : World) (hb : b.size ≤ 140737488355328) (hT : Tab w) :
    Calls Tryd.prog 20 #[.string b] w fun e w' => ∃ u, e = .returned (.tuple #[.agg (cells (val b) u), .int .i64 (code b)]) ∧ Kd.R k60 60 w' w.heap.size (fun _ => True) u (val b).2.2 ∧ Below w.heap.size w w' := by
  obtain ⟨w2, e2⟩ : ∃ w2, w2 = (w.alloc (.cells #[.int .i64 0, .int .u64 0, .int .u64 0, .slice none 0 0, .int .i64 0, .slice none 0 0] 46)).alloc (.cells #[.int .i64 0, .int .u64 0, .int .u64 0, .slice none 0 0, .int .i64 0, .slice none 0 0] 46) := ⟨_, rfl⟩
  have z2 : w2.heap.size = w.heap.size + 2 := by rw [e2]; simp
  have b0 : w2.heap[w.heap.size]? = some (.cells #[.int .i64 0, .int .u64 0, .int .u64 0, .slice none 0 0, .int .i64 0, .slice none 0 0] 46 (0, 0)) := by rw [e2]; exact (heap_alloc_old _ _ (by simp)).trans (heap_alloc_new _ _)
  have b1 : w2.heap[w.heap.size + 1]? = some (.cells #[.int .i64 0, .int .u64 0, .int .u64 0, .slice none 0 0, .int .i64 0, .slice none 0 0] 46 (0, 0)) := by rw [e2]; simpa using heap_alloc_new (w.alloc (.cells #[.int .i64 0, .int .u64 0, .int .u64 0, .slice none 0 0, .int .i64 0, .slice none 0 0] 46)) (.cells #[.int .i64 0, .int .u64 0, .int .u64 0, .slice none 0 0, .int .i64 0, .slice none 0 0] 46)
  have hb2 : Below w.heap.size w w2 := by rw [e2]; exact below_alloc (below_alloc (Below.refl _ _) _) _
  have HB := Aside0.mk hb2
  have HT := Aside0.mk (hT.below hb2)
  have E2 := Aside0.mk e2
  have HZ := Aside0.mk z2
  have hmf : ∀ (fn : Fn) (first cap : Array Value) (w : World), (Instr.makeFunc fn first cap).run Tryd.prog w = .ok (.func fn first cap) w := fun _ _ _ _ => rfl
  by_cases ho : opn b ltE = 0
  · have HI := Aside0.mk (del_in b ltE #[.pointer (some ⟨w.heap.size + 1, 0, none⟩)] w2 hb HT.out ho (Qc w2 (w.heap.size + 1) b)
      (fun W1 rb h1 h2 h3 h4 => (inner gd W1 (w.heap.size + 1) rb (ins b) (ins_le b hb) ((h1.block _ (by omega)).trans b1) h3 (by omega)).mono (fun e w' hl => ⟨h1, h2, h4, hl⟩))
      (fun W1 rb e0 w1 h => ⟨(h.2.2.2.1.block _ (blk_lt h.2.2.1) (by omega) (by have := h.2.1; omega)).trans h.2.2.1, left_or h.2.2.2⟩))
    have H0 := Aside0.mk b0
    have HO0 := Aside0.mk ho
    clear b0 b1 z2 e2 hb2 hT ho gd
    go_enter Tryd.func20, Tryd.ntmps20
    go_wp2_with fail
    rw [← E2.out]
    refine HI.out.mono ?_
    rintro e w4 ⟨c, rfl, W1, rb, e0, w1, ⟨h1, h2, h3, hL⟩, _, hTn, hor⟩
    have hz := HZ.out
    have hz1 := h1.size
    have hz2 := hL.1.size
    have r1 : w4.heap[w.heap.size]? = some (.cells #[.int .i64 0, .int .u64 0, .int .u64 0, .slice none 0 0, .int .i64 0, .slice none 0 0] 46 (0, 0)) := hTn.blk ((hL.1.block _ (by omega) (by omega) (by omega)).trans ((h1.block _ (by omega)).trans H0.out)) (by omega)
    have hB4 : Below w.heap.size w w4 := (HB.out.trans (h1.mono (by omega))).trans ⟨hTn.os.trans hL.1.os, hTn.tape.trans hL.1.tape, hTn.output.trans hL.1.output, Nat.le_trans hL.1.size hTn.size, fun k hk => (hTn.block k (by omega) (by omega)).trans (hL.1.block k (by omega) (by omega) (by omega))⟩
    have HB := Aside0.mk hB4
    have HR1 := Aside0.mk r1
    clear hB4 r1
    have hne : (Ending.returned (.tuple #[])) ≠ gives := fun h => by unfold gives at h; cases h
    cases hD : dcE (ins b) with
    | none =>
      rw [hD] at hL
      have hc : c = 125 := by rcases hor with ⟨_, h⟩ | ⟨h, _⟩; exact h; exact absurd (h.symm.trans hL.2) hne
      subst hc
      have HV := Aside0.mk (none_val HO0.out hD)
      clear hD hL hTn hor hz hz1 hz2 h1 h2 h3 hne
      have d0 : _ = some (Value.int .i64 0) := (blk_cell HR1.out 0).trans rfl
      have d1 : _ = some (Value.int .u64 0) := (blk_cell HR1.out 1).trans rfl
      have d2 : _ = some (Value.int .u64 0) := (blk_cell HR1.out 2).trans rfl
      have d3 : _ = some (Value.slice none 0 0) := (blk_cell HR1.out 3).trans rfl
      have d4 : _ = some (Value.int .i64 0) := (blk_cell HR1.out 4).trans rfl
      have d5 : _ = some (Value.slice none 0 0) := (blk_cell HR1.out 5).trans rfl
      have f0 := blk_frozen HR1.out 0
      have f1 := blk_frozen HR1.out 1
      have f2 := blk_frozen HR1.out 2
      have f3 := blk_frozen HR1.out 3
      have f4 := blk_frozen HR1.out 4
      have f5 := blk_frozen HR1.out 5
      go_wp2_with fail
      refine bodyPost_ret (v := .tuple #[.agg #[.int .i64 0, .int .u64 0, .int .u64 0, .slice none 0 0, .int .i64 0, .slice none 0 0], .int .i64 125]) (results_ct (fn := Tryd.f20) rfl _ _ w.heap.size 46 #[.int .i64 0, .int .u64 0, .int .u64 0, .slice none 0 0, .int .i64 0, .slice none 0 0] (0, 0) _ rfl (by exact (blk_set ((blk_set ((blk_set ((blk_set ((blk_set ((blk_set HR1.out 0 (.int .i64 0)).trans rfl) 1 (.int .u64 0)).trans rfl) 2 (.int .u64 0)).trans rfl) 3 (.slice none 0 0)).trans rfl) 4 (.int .i64 0)).trans rfl) 5 (.slice none 0 0)).trans rfl) Tryd.underlying46 rfl (by kernel_rfl)) rfl ?_
      refine ⟨_, by rw [HV.out.1, HV.out.2]; rfl, ?_, ((((((HB.out.setCell (p := ⟨w.heap.size, 0, none⟩) (Nat.le_refl _) _).setCell (p := ⟨w.heap.size, 1, none⟩) (Nat.le_refl _) _).setCell (p := ⟨w.heap.size, 2, none⟩) (Nat.le_refl _) _).setCell (p := ⟨w.heap.size, 3, none⟩) (Nat.le_refl _) _).setCell (p := ⟨w.heap.size, 4, none⟩) (Nat.le_refl _) _).setCell (p := ⟨w.heap.size, 5, none⟩) (Nat.le_refl _) _)⟩
      rw [HV.out.1]
      exact Kd.R_nil _ _ _ _ _
    | some x =>
      obtain ⟨r, qq⟩ := x
      rw [hD] at hL
      obtain ⟨hT2, he0, hrd, u, hu, hown⟩ := hL
      subst he0
      simp only at hrd hu hown
      have hc : c = if qq = ((ins b).size : Int) then 0 else 125 := by
        rcases hor with ⟨h, _⟩ | ⟨_, q', hq, hc⟩
        · exact absurd h hne
        · rw [hrd] at hq
          have e := Option.some.inj hq
          injection e with e
          have e2 := congrArg (fun a => a[1]?) e
          simp at e2
          rw [hc, e2]
      by_cases hq : qq = ((ins b).size : Int)
      · rw [if_pos hq] at hc
        subst hc
        have HV := Aside0.mk (some_val HO0.out hD hq)
        have r2 : w4.heap[w.heap.size + 1]? = some (.cells (cells r u) 46 (0, 0)) := hTn.blk hu (by omega)
        have ho : Kd.R k60 60 w4 w.heap.size (fun _ => True) u r.2.2 := Kd.R_lower (Kd.R_mono (Kd.R_keep (g := w2.heap.size) (Kd.R_newB hown h3) ⟨hTn.size, fun i hi hg _ => hTn.block i hi hg⟩ (fun _ hk => hk.2)) (fun _ _ => trivial)) (by omega)
        obtain ⟨A, cc, rfl⟩ := Kd.R_slice ho
        have HO := Aside0.mk ho
        have HR2 := Aside0.mk r2
        clear hD hT2 hrd hu hown hTn hor hz hz1 hz2 h1 h2 h3 hne hq ho r2
        have c0 : _ = some (Value.int .i64 r.1) := (blk_cell HR2.out 0).trans rfl
        have c1 : _ = some (Value.int .u64 0) := (blk_cell HR2.out 1).trans rfl
        have c2 : _ = some (Value.int .u64 0) := (blk_cell HR2.out 2).trans rfl
        have c3 : _ = some (Value.slice none 0 0) := (blk_cell HR2.out 3).trans rfl
        have c4 : _ = some (Value.int .i64 r.2.1) := (blk_cell HR2.out 4).trans rfl
        have c5 : _ = some (Value.slice A r.2.2.length cc) := (blk_cell HR2.out 5).trans rfl
        have d0 : _ = some (Value.int .i64 0) := (blk_cell HR1.out 0).trans rfl
        have d1 : _ = some (Value.int .u64 0) := (blk_cell HR1.out 1).trans rfl
        have d2 : _ = some (Value.int .u64 0) := (blk_cell HR1.out 2).trans rfl
        have d3 : _ = some (Value.slice none 0 0) := (blk_cell HR1.out 3).trans rfl
        have d4 : _ = some (Value.int .i64 0) := (blk_cell HR1.out 4).trans rfl
        have d5 : _ = some (Value.slice none 0 0) := (blk_cell HR1.out 5).trans rfl
        have f0 := blk_frozen HR1.out 0
        have f1 := blk_frozen HR1.out 1
        have f2 := blk_frozen HR1.out 2
        have f3 := blk_frozen HR1.out 3
        have f4 := blk_frozen HR1.out 4
        have f5 := blk_frozen HR1.out 5
        go_wp2_with fail
        refine bodyPost_ret (v := .tuple #[.agg #[.int .i64 r.1, .int .u64 0, .int .u64 0, .slice none 0 0, .int .i64 r.2.1, .slice A r.2.2.length cc], .int .i64 0]) (results_ct (fn := Tryd.f20) rfl _ _ w.heap.size 46 #[.int .i64 r.1, .int .u64 0, .int .u64 0, .slice none 0 0, .int .i64 r.2.1, .slice A r.2.2.length cc] (0, 0) _ rfl (by exact (blk_set ((blk_set ((blk_set ((blk_set ((blk_set ((blk_set HR1.out 0 (.int .i64 r.1)).trans rfl) 1 (.int .u64 0)).trans rfl) 2 (.int .u64 0)).trans rfl) 3 (.slice none 0 0)).trans rfl) 4 (.int .i64 r.2.1)).trans rfl) 5 (.slice A r.2.2.length cc)).trans rfl) Tryd.underlying46 rfl (by kernel_rfl)) rfl ?_
        refine ⟨_, by rw [HV.out.1, HV.out.2]; rfl, ?_, ((((((HB.out.setCell (p := ⟨w.heap.size, 0, none⟩) (Nat.le_refl _) _).setCell (p := ⟨w.heap.size, 1, none⟩) (Nat.le_refl _) _).setCell (p := ⟨w.heap.size, 2, none⟩) (Nat.le_refl _) _).setCell (p := ⟨w.heap.size, 3, none⟩) (Nat.le_refl _) _).setCell (p := ⟨w.heap.size, 4, none⟩) (Nat.le_refl _) _).setCell (p := ⟨w.heap.size, 5, none⟩) (Nat.le_refl _) _)⟩
        rw [HV.out.1]
        exact Kd.R_mono (Kd.R_far (p := ⟨w.heap.size, 5, none⟩) (Kd.R_far (p := ⟨w.heap.size, 4, none⟩) (Kd.R_far (p := ⟨w.heap.size, 3, none⟩) (Kd.R_far (p := ⟨w.heap.size, 2, none⟩) (Kd.R_far (p := ⟨w.heap.size, 1, none⟩) (Kd.R_far (p := ⟨w.heap.size, 0, none⟩) (Kd.R_types HO.out HR1.out (by decide)) (fun _ hk => hk.2) _) (fun _ hk => hk.2) _) (fun _ hk => hk.2) _) (fun _ hk => hk.2) _) (fun _ hk => hk.2) _) (fun _ hk => hk.2) _) (fun _ _ => trivial)
      · rw [if_neg hq] at hc
        subst hc
        have HV := Aside0.mk (short_val HO0.out hD hq)
        clear hD hT2 hrd hu hown hTn hor hz hz1 hz2 h1 h2 h3 hne hq
        have d0 : _ = some (Value.int .i64 0) := (blk_cell HR1.out 0).trans rfl
        have d1 : _ = some (Value.int .u64 0) := (blk_cell HR1.out 1).trans rfl
        have d2 : _ = some (Value.int .u64 0) := (blk_cell HR1.out 2).trans rfl
        have d3 : _ = some (Value.slice none 0 0) := (blk_cell HR1.out 3).trans rfl
        have d4 : _ = some (Value.int .i64 0) := (blk_cell HR1.out 4).trans rfl
        have d5 : _ = some (Value.slice none 0 0) := (blk_cell HR1.out 5).trans rfl
        have f0 := blk_frozen HR1.out 0
        have f1 := blk_frozen HR1.out 1
        have f2 := blk_frozen HR1.out 2
        have f3 := blk_frozen HR1.out 3
        have f4 := blk_frozen HR1.out 4
        have f5 := blk_frozen HR1.out 5
        go_wp2_with fail
        refine bodyPost_ret (v := .tuple #[.agg #[.int .i64 0, .int .u64 0, .int .u64 0, .slice none 0 0, .int .i64 0, .slice none 0 0], .int .i64 125]) (results_ct (fn := Tryd.f20) rfl _ _ w.heap.size 46 #[.int .i64 0, .int .u64 0, .int .u64 0, .slice none 0 0, .int .i64 0, .slice none 0 0] (0, 0) _ rfl (by exact (blk_set ((blk_set ((blk_set ((blk_set ((blk_set ((blk_set HR1.out 0 (.int .i64 0)).trans rfl) 1 (.int .u64 0)).trans rfl) 2 (.int .u64 0)).trans rfl) 3 (.slice none 0 0)).trans rfl) 4 (.int .i64 0)).trans rfl) 5 (.slice none 0 0)).trans rfl) Tryd.underlying46 rfl (by kernel_rfl)) rfl ?_
        refine ⟨_, by rw [HV.out.1, HV.out.2]; rfl, ?_, ((((((HB.out.setCell (p := ⟨w.heap.size, 0, none⟩) (Nat.le_refl _) _).setCell (p := ⟨w.heap.size, 1, none⟩) (Nat.le_refl _) _).setCell (p := ⟨w.heap.size, 2, none⟩) (Nat.le_refl _) _).setCell (p := ⟨w.heap.size, 3, none⟩) (Nat.le_refl _) _).setCell (p := ⟨w.heap.size, 4, none⟩) (Nat.le_refl _) _).setCell (p := ⟨w.heap.size, 5, none⟩) (Nat.le_refl _) _)⟩
        rw [HV.out.1]
        exact Kd.R_nil _ _ _ _ _
  · have HI := Aside0.mk (del_out b ltE #[.pointer (some ⟨w.heap.size + 1, 0, none⟩)] w2 hb HT.out ho)
    have HV := Aside0.mk (out_val ho)
    have H0 := Aside0.mk b0
    have HO0 := Aside0.mk ho
    clear b0 b1 z2 e2 hb2 hT ho gd
    go_enter Tryd.func20, Tryd.ntmps20
    go_wp2_with fail
    rw [← E2.out]
    refine HI.out.mono ?_
    rintro e w4 ⟨rfl, hb4⟩
    have hz := HZ.out
    have HR1 := Aside0.mk ((hb4.block _ (by omega)).trans H0.out)
    have HB := Aside0.mk (HB.out.trans (hb4.mono (by omega)))
    have hk : (opn b ltE == 0) = false := beq_eq_false_iff_ne.2 HO0.out
    generalize opn b ltE = cd at hk HV ⊢
    clear hb4 hz HI HO0
    have d0 : _ = some (Value.int .i64 0) := (blk_cell HR1.out 0).trans rfl
    have d1 : _ = some (Value.int .u64 0) := (blk_cell HR1.out 1).trans rfl
    have d2 : _ = some (Value.int .u64 0) := (blk_cell HR1.out 2).trans rfl
    have d3 : _ = some (Value.slice none 0 0) := (blk_cell HR1.out 3).trans rfl
    have d4 : _ = some (Value.int .i64 0) := (blk_cell HR1.out 4).trans rfl
    have d5 : _ = some (Value.slice none 0 0) := (blk_cell HR1.out 5).trans rfl
    have f0 := blk_frozen HR1.out 0
    have f1 := blk_frozen HR1.out 1
    have f2 := blk_frozen HR1.out 2
    have f3 := blk_frozen HR1.out 3
    have f4 := blk_frozen HR1.out 4
    have f5 := blk_frozen HR1.out 5
    go_wp2_with fail
    refine bodyPost_ret (v := .tuple #[.agg #[.int .i64 0, .int .u64 0, .int .u64 0, .slice none 0 0, .int .i64 0, .slice none 0 0], .int .i64 cd]) (results_ct (fn := Tryd.f20) rfl _ _ w.heap.size 46 #[.int .i64 0, .int .u64 0, .int .u64 0, .slice none 0 0, .int .i64 0, .slice none 0 0] (0, 0) _ rfl (by exact (blk_set ((blk_set ((blk_set ((blk_set ((blk_set ((blk_set HR1.out 0 (.int .i64 0)).trans rfl) 1 (.int .u64 0)).trans rfl) 2 (.int .u64 0)).trans rfl) 3 (.slice none 0 0)).trans rfl) 4 (.int .i64 0)).trans rfl) 5 (.slice none 0 0)).trans rfl) Tryd.underlying46 rfl (by kernel_rfl)) rfl ?_
    refine ⟨_, by rw [HV.out.1, HV.out.2]; rfl, ?_, ((((((HB.out.setCell (p := ⟨w.heap.size, 0, none⟩) (Nat.le_refl _) _).setCell (p := ⟨w.heap.size, 1, none⟩) (Nat.le_refl _) _).setCell (p := ⟨w.heap.size, 2, none⟩) (Nat.le_refl _) _).setCell (p := ⟨w.heap.size, 3, none⟩) (Nat.le_refl _) _).setCell (p := ⟨w.heap.size, 4, none⟩) (Nat.le_refl _) _).setCell (p := ⟨w.heap.size, 5, none⟩) (Nat.le_refl _) _)⟩
    rw [HV.out.1]
    exact Kd.R_nil _ _ _ _ _
end Go.Proofs.YtejjidggnnhgjaaDoor.HImDe
/- goodManifest of layer 12, by the program: it keeps the numbers of the pairs in a map of its own. -/
set_option linter.unusedVariables false
set_option linter.unusedSimpArgs false
namespace Go.Proofs.YtejjidggnnhgjaaDoor.HImGm
open Go.RowKit Go.Maps Go.Proofs.YtejjidggnnhgjaaDoor.PImg Go.Proofs.YtejjidggnnhgjaaDoor.HImP Go.Proofs.YtejjidggnnhgjaaDoor.HImD Go.Proofs.YtejjidggnnhgjaaDoor.HImE Go.Proofs.YtejjidggnnhgjaaDoorW.PrintWords Go.Proofs.YtejjidggnnhgjaaDoorW.PrintLast Go.Proofs.YtejjidggnnhgjaaDoorW.PrintMore Go.Proofs.YtejjidggnnhgjaaDoor.HCore
theorem oksN_append (g n u : Int) (b : List SN) : ∀ (a : List SN) (st : Int), oksN g n u st (a ++ b) = (oksN g n u st a && oksN g n u (lst nxN st a) b)
  | [], _ => by simp [oksN, lst]
  | x :: a, st => by
    show (cN g n u st x && oksN g n u (nxN x) (a ++ b)) = ((cN g n u st x && oksN g n u (nxN x) a) && oksN g n u (lst nxN (nxN x) a) b)
    rw [oksN_append g n u b a (nxN x), Bool.and_assoc]
/-- At the k-th name. -/
theorem oksN_step {g n u : Int} {ps : List SN} {k : Nat} (hk : k < ps.length) (h : oksN g n u 0 (ps.take k) = true) :
    (cN g n u (lst nxN 0 (ps.take k)) ps[k] = true → oksN g n u 0 (ps.take (k + 1)) = true) ∧ (cN g n u (lst nxN 0 (ps.take k)) ps[k] = false → oksN g n u 0 ps = false) := by
  have e : ps.take (k + 1) = ps.take k ++ [ps[k]] := List.take_succ_eq_append_getElem hk
  constructor
  · intro hc
    rw [e, oksN_append, h]
    simp [oksN, hc]
  · intro hc
    have e2 : ps = ps.take k ++ ps[k] :: ps.drop (k + 1) := by
      conv => lhs; rw [← List.take_append_drop (k + 1) ps, e]
      simp
    rw [e2, oksN_append, h]
    simp [oksN, hc]
def keyN (x : SN) : Lit := .int .i64 x.f0
theorem keys_nodup : ∀ (xs : List SN) (acc : List Lit), ((xs.map keyN).foldl addKey acc).length ≤ acc.length + xs.length ∧ (((xs.map keyN).foldl addKey acc).length = acc.length + xs.length ↔ (xs.map (fun p => p.f0)).Nodup ∧ ∀ x ∈ xs, acc.any (fun y => y.sameKey (keyN x)) = false)
  | [], acc => by simp
  | x :: xs, acc => by
    obtain ⟨h1, h2⟩ := keys_nodup xs (addKey acc (keyN x))
    have hs : ∀ y : SN, (keyN x).sameKey (keyN y) = decide (x.f0 = y.f0) := fun y => by unfold keyN Lit.sameKey; simp
    simp only [List.map_cons, List.foldl_cons, List.length_cons, List.nodup_cons, List.mem_map, List.mem_cons, forall_eq_or_imp]
    by_cases hx : acc.any (fun y => y.sameKey (keyN x)) = true
    · have e : addKey acc (keyN x) = acc := by unfold addKey; rw [if_pos hx]
      rw [e] at h1 h2 ⊢
      refine ⟨by omega, ⟨fun h => by omega, fun h => ?_⟩⟩
      rw [hx] at h
      exact absurd h.2.1 (by simp)
    · have e : addKey acc (keyN x) = acc ++ [keyN x] := by unfold addKey; rw [if_neg hx]
      rw [e] at h1 h2 ⊢
      rw [List.length_append, List.length_singleton] at h1 h2
      refine ⟨by omega, ?_⟩
      have hx2 : acc.any (fun y => y.sameKey (keyN x)) = false := by simpa using hx
      constructor
      · intro h
        obtain ⟨g1, g2⟩ := h2.1 (by omega)
        refine ⟨⟨fun hm => ?_, g1⟩, hx2, fun y hy => ?_⟩
        · obtain ⟨y, hy, he⟩ := hm
          have := g2 y hy
          rw [List.any_append] at this
          simp [hs, he] at this
        · have := g2 y hy
          rw [List.any_append] at this
          simp only [Bool.or_eq_false_iff] at this
          exact this.1
      · intro h
        have := h2.2 ⟨h.1.2, fun y hy => by
          rw [List.any_append, h.2.2 y hy]
          simp only [List.any_cons, List.any_nil, Bool.or_false, Bool.false_or, hs]
          exact decide_eq_false (fun he => h.1.1 ⟨y, hy, he.symm⟩)⟩
        omega
theorem set_size (xs : List SN) : (Maps.size (setOf (H := Unit) (.agg []) (xs.map keyN)) = xs.length ↔ (xs.map (fun p => p.f0)).Nodup) := by
  rw [size_setOf _ _ (fun x hx => by obtain ⟨y, _, rfl⟩ := List.mem_map.1 hx; trivial)]
  have h := (keys_nodup xs []).2
  simp only [List.length_nil, Nat.zero_add, List.any_nil, implies_true, and_true] at h
  exact h
/-- Which test fails first. -/
theorem head_no {gen next upto : Int} {n : Nat} (h : ¬ (1 ≤ gen ∧ gen ≤ 99999999 ∧ 1 ≤ next ∧ next ≤ 100000000 ∧ upto ≤ 4611686018427387903 ∧ n ≤ 256)) :
    gen < 1 ∨ (1 ≤ gen ∧ gen > 99999999) ∨ (1 ≤ gen ∧ gen ≤ 99999999 ∧ next < 1) ∨ (1 ≤ gen ∧ gen ≤ 99999999 ∧ 1 ≤ next ∧ next > 100000000) ∨ (1 ≤ gen ∧ gen ≤ 99999999 ∧ 1 ≤ next ∧ next ≤ 100000000 ∧ upto > 4611686018427387903) ∨ (1 ≤ gen ∧ gen ≤ 99999999 ∧ 1 ≤ next ∧ next ≤ 100000000 ∧ upto ≤ 4611686018427387903 ∧ 256 < n) := by omega
set_option maxRecDepth 100000 in
set_option maxHeartbeats 4000000 in
theorem good_no (gen next upto : Int) (A : Option Addr) (c : Nat) (ps : List SN) (w : World) (hn : ps.length ≤ 9223372036854775807) (h : ¬ (1 ≤ gen ∧ gen ≤ 99999999 ∧ 1 ≤ next ∧ next ≤ 100000000 ∧ upto ≤ 4611686018427387903 ∧ ps.length ≤ 256)) :
    Calls Tryd.prog 28 #[.agg #[.int .i64 gen, .int .i64 next, .int .u64 upto, .slice A ps.length c]] w fun e w' => e = .returned (.bool false) ∧ Below w.heap.size w w' := by
  have hd := head_no h
  clear h
  rcases hd with h | ⟨h1, h⟩ | ⟨h1, h2, h⟩ | ⟨h1, h2, h3, h⟩ | ⟨h1, h2, h3, h4, h⟩ | ⟨h1, h2, h3, h4, h5, h⟩
  all_goals
    go_enter Tryd.func28, Tryd.ntmps28
    go_wp2
    go_ret
    exact ⟨rfl, below_alloc (Below.refl _ _) _⟩
/-- Which test of a name fails first. -/
inductive Bad (gen next upto last : Int) (n : SN) : Prop
  | a1 (h : n.f0 < 1) : Bad gen next upto last n
  | a2 (h1 : 1 ≤ n.f0) (h : next ≤ n.f0) : Bad gen next upto last n
  | a3 (h1 : 1 ≤ n.f0) (h2 : n.f0 < next) (h : n.f1 < last) : Bad gen next upto last n
  | a4 (h1 : 1 ≤ n.f0) (h2 : n.f0 < next) (h3 : last ≤ n.f1) (h : n.f2 ≤ n.f1) : Bad gen next upto last n
  | a5 (h1 : 1 ≤ n.f0) (h2 : n.f0 < next) (h3 : last ≤ n.f1) (h4 : n.f1 < n.f2) (h : upto < n.f2) : Bad gen next upto last n
  | b1 (h1 : 1 ≤ n.f0) (h2 : n.f0 < next) (h3 : last ≤ n.f1) (h4 : n.f1 < n.f2) (h5 : n.f2 ≤ upto) (h : n.f3 < 0) : Bad gen next upto last n
  | b2 (h1 : 1 ≤ n.f0) (h2 : n.f0 < next) (h3 : last ≤ n.f1) (h4 : n.f1 < n.f2) (h5 : n.f2 ≤ upto) (h6 : 0 ≤ n.f3) (h : 65536 < n.f3) : Bad gen next upto last n
  | b3 (h1 : 1 ≤ n.f0) (h2 : n.f0 < next) (h3 : last ≤ n.f1) (h4 : n.f1 < n.f2) (h5 : n.f2 ≤ upto) (h6 : 0 ≤ n.f3) (h7 : n.f3 ≤ 65536) (h : n.f4 < 0) : Bad gen next upto last n
  | b4 (h1 : 1 ≤ n.f0) (h2 : n.f0 < next) (h3 : last ≤ n.f1) (h4 : n.f1 < n.f2) (h5 : n.f2 ≤ upto) (h6 : 0 ≤ n.f3) (h7 : n.f3 ≤ 65536) (h8 : 0 ≤ n.f4) (h : gen < n.f4) : Bad gen next upto last n
  | b5 (h1 : 1 ≤ n.f0) (h2 : n.f0 < next) (h3 : last ≤ n.f1) (h4 : n.f1 < n.f2) (h5 : n.f2 ≤ upto) (h6 : 0 ≤ n.f3) (h7 : n.f3 ≤ 65536) (h8 : 0 ≤ n.f4) (h9 : n.f4 ≤ gen) (h : n.f5 < 0) : Bad gen next upto last n
  | b6 (h1 : 1 ≤ n.f0) (h2 : n.f0 < next) (h3 : last ≤ n.f1) (h4 : n.f1 < n.f2) (h5 : n.f2 ≤ upto) (h6 : 0 ≤ n.f3) (h7 : n.f3 ≤ 65536) (h8 : 0 ≤ n.f4) (h9 : n.f4 ≤ gen) (h10 : 0 ≤ n.f5) (h : n.f3 < n.f5) : Bad gen next upto last n
  | c1 (h1 : 1 ≤ n.f0) (h2 : n.f0 < next) (h3 : last ≤ n.f1) (h4 : n.f1 < n.f2) (h5 : n.f2 ≤ upto) (h6 : 0 ≤ n.f3) (h7 : n.f3 ≤ 65536) (h8 : 0 ≤ n.f4) (h9 : n.f4 ≤ gen) (h10 : 0 ≤ n.f5) (h11 : n.f5 ≤ n.f3) (e1 : (n.f4 == 0) = true) (e2 : (n.f5 == 0) = false) : Bad gen next upto last n
  | c2 (h1 : 1 ≤ n.f0) (h2 : n.f0 < next) (h3 : last ≤ n.f1) (h4 : n.f1 < n.f2) (h5 : n.f2 ≤ upto) (h6 : 0 ≤ n.f3) (h7 : n.f3 ≤ 65536) (h8 : 0 ≤ n.f4) (h9 : n.f4 ≤ gen) (h10 : 0 ≤ n.f5) (h11 : n.f5 ≤ n.f3) (e1 : (n.f4 == 0) = false) (e2 : (n.f5 == 0) = true) : Bad gen next upto last n
  | c3 (h1 : 1 ≤ n.f0) (h2 : n.f0 < next) (h3 : last ≤ n.f1) (h4 : n.f1 < n.f2) (h5 : n.f2 ≤ upto) (h6 : 0 ≤ n.f3) (h7 : n.f3 ≤ 65536) (h8 : 0 ≤ n.f4) (h9 : n.f4 ≤ gen) (h10 : 0 ≤ n.f5) (h11 : n.f5 ≤ n.f3) (e1 : (n.f4 == 0) = true) (e2 : (n.f5 == 0) = true) (e3 : (n.f7 == 0) = false) : Bad gen next upto last n
theorem bad_of {gen next upto last : Int} {n : SN} (h : cN gen next upto last n = false) : Bad gen next upto last n := by
  unfold cN at h
  rw [decide_eq_false_iff_not] at h
  by_cases h1 : 1 ≤ n.f0
  case neg => exact .a1 (by omega)
  by_cases h2 : n.f0 < next
  case neg => exact .a2 h1 (by omega)
  by_cases h3 : last ≤ n.f1
  case neg => exact .a3 h1 h2 (by omega)
  by_cases h4 : n.f1 < n.f2
  case neg => exact .a4 h1 h2 h3 (by omega)
  by_cases h5 : n.f2 ≤ upto
  case neg => exact .a5 h1 h2 h3 h4 (by omega)
  by_cases h6 : 0 ≤ n.f3
  case neg => exact .b1 h1 h2 h3 h4 h5 (by omega)
  by_cases h7 : n.f3 ≤ 65536
  case neg => exact .b2 h1 h2 h3 h4 h5 h6 (by omega)
  by_cases h8 : 0 ≤ n.f4
  case neg => exact .b3 h1 h2 h3 h4 h5 h6 h7 (by omega)
  by_cases h9 : n.f4 ≤ gen
  case neg => exact .b4 h1 h2 h3 h4 h5 h6 h7 h8 (by omega)
  by_cases h10 : 0 ≤ n.f5
  case neg => exact .b5 h1 h2 h3 h4 h5 h6 h7 h8 h9 (by omega)
  by_cases h11 : n.f5 ≤ n.f3
  case neg => exact .b6 h1 h2 h3 h4 h5 h6 h7 h8 h9 h10 (by omega)
  by_cases e1 : n.f4 = 0
  · by_cases e2 : n.f5 = 0
    · by_cases e3 : n.f7 = 0
      · exact absurd ⟨h1, h2, h3, h4, h5, h6, h7, h8, h9, h10, h11, by omega, fun _ => e3⟩ h
      · exact .c3 h1 h2 h3 h4 h5 h6 h7 h8 h9 h10 h11 (beq_iff_eq.2 e1) (beq_iff_eq.2 e2) (beq_eq_false_iff_ne.2 e3)
    · exact .c1 h1 h2 h3 h4 h5 h6 h7 h8 h9 h10 h11 (beq_iff_eq.2 e1) (beq_eq_false_iff_ne.2 e2)
  · by_cases e2 : n.f5 = 0
    · exact .c2 h1 h2 h3 h4 h5 h6 h7 h8 h9 h10 h11 (beq_eq_false_iff_ne.2 e1) (beq_iff_eq.2 e2)
    · exact absurd ⟨h1, h2, h3, h4, h5, h6, h7, h8, h9, h10, h11, by omega, fun h => absurd h e1⟩ h
/-- What stands while the names are looked at. -/
structure St (w wr : World) (cs : Array Value) (ps : List SN) (k : Nat) : Prop where
  below : Below w.heap.size w wr
  box : wr.heap[w.heap.size]? = some (.cells cs 25 (0, 0))
  own : wr.ownsMap Tryd.prog 3 (unitElem (H := Unit)) (w.heap.size + 1) k (setOf (.agg []) ((ps.take k).map keyN))
theorem St.step {w wr w1 : World} {cs : Array Value} {ps : List SN} {k : Nat} (h : St w wr cs ps k) (hk : k < ps.length) (o : Obj) (hown : w1.ownsMap Tryd.prog 3 (unitElem (H := Unit)) (w.heap.size + 1) (k + 1) ((setOf (.agg []) ((ps.take k).map keyN)).put (keyN ps[k]) (.agg []))) (hg : (wr.alloc o).grownBy w1 (some (w.heap.size + 1))) : St w w1 cs ps (k + 1) := by
  have hb := below_alloc h.below o
  have h0 := (heap_alloc_old wr o (blk_lt h.box)).trans h.box
  refine ⟨hb.grown hg hb.size (fun j hj => by cases hj; omega), ?_, ?_⟩
  · exact (hg.block _ (blk_lt h0) (fun e => by injection e; omega)).trans h0
  · rw [List.take_succ_eq_append_getElem hk, List.map_append, List.map_cons, List.map_nil, setOf_snoc]
    exact hown
set_option maxRecDepth 100000 in
set_option maxHeartbeats 16000000 in
theorem good_in (gen next upto : Int) (A : Option Addr) (c : Nat) (ps : List SN) (w : World) (hC : Kd.C k36 w A ps.length ps) (hc : ps.length ≤ c) (hr : ∀ x ∈ ps, (Lit.int .i64 x.f0).wf = true) (h : (1 ≤ gen ∧ gen ≤ 99999999 ∧ 1 ≤ next ∧ next ≤ 100000000 ∧ upto ≤ 4611686018427387903 ∧ ps.length ≤ 256)) :
    Calls Tryd.prog 28 #[.agg #[.int .i64 gen, .int .i64 next, .int .u64 upto, .slice A ps.length c]] w fun e w' => e = .returned (.bool (oksN gen next upto 0 ps && decide (ps.map (fun p => p.f0)).Nodup)) ∧ Below w.heap.size w w' := by
  obtain ⟨h1, h2, h3, h4, h5, h6⟩ := h
  have hmm := @run_makeMap Tryd.prog
  have HC := Aside0.mk hC
  have HR := Aside0.mk hr
  have law : Keyed Tryd.prog 3 := int_keyed Tryd.underlying3
  have LW := Aside0.mk law
  clear hC hr law
  have HS : Aside0 (St w ((w.alloc (.cells #[.int .i64 gen, .int .i64 next, .int .u64 upto, .slice A ps.length c] 25)).alloc (.map #[] 0)) #[.int .i64 gen, .int .i64 next, .int .u64 upto, .slice A ps.length c] ps 0) := ⟨⟨below_alloc (below_alloc (Below.refl _ _) _) _, (heap_alloc_old _ _ (by simp)).trans (heap_alloc_new _ _), by
    have h := World.ownsMap_made (w.alloc (.cells #[.int .i64 gen, .int .i64 next, .int .u64 upto, .slice A ps.length c] 25)) Tryd.prog 3 (unitElem (H := Unit))
    rw [show (w.alloc (.cells #[.int .i64 gen, .int .i64 next, .int .u64 upto, .slice A ps.length c] 25)).heap.size = w.heap.size + 1 by simp] at h
    exact h⟩⟩
  go_enter Tryd.func28, Tryd.ntmps28
  go_wp2
  clear hmm
  go_loopw [4, 40] (fun v4 v40 wr => ∃ k : Nat, k ≤ ps.length ∧ v40 = .int .i64 (k : Int) ∧ v4 = .int .u64 (lst nxN 0 (ps.take k)) ∧ oksN gen next upto 0 (ps.take k) = true ∧ Aside0 (St w wr #[.int .i64 gen, .int .i64 next, .int .u64 upto, .slice A ps.length c] ps k)) (fun _ v40 _ => ps.length - (intOf v40).toNat)
  case atStart => exact ⟨0, by omega, rfl, rfl, rfl, HS⟩
  case round =>
    clear HS
    obtain ⟨k, hk, rfl, rfl, hoks, HS⟩ := hrel
    have HOK := Aside0.mk hoks
    clear hoks
    by_cases hlt : k < ps.length
    · have HCr := Kd.C_below HC.out HS.out.below
      obtain ⟨ad, eA, y0, y1, y2, y3, y4, y5, y6, y7⟩ := at_T36 HCr (k : Int) (by omega) (by omega)
      subst eA
      simp only [Int.toNat_natCast] at y0 y1 y2 y3 y4 y5 y6 y7
      have hget : rd_T36 ps (k : Int) = ps[k] := by unfold rd_T36; rw [Int.toNat_natCast, List.getD_eq_getElem?_getD, List.getElem?_eq_getElem hlt, Option.getD_some]
      rw [hget] at y0 y1 y2 y3 y4 y5 y6 y7
      obtain ⟨hyes, hno⟩ := oksN_step hlt HOK.out
      have hnx : lst nxN 0 (ps.take (k + 1)) = nxN ps[k] := by rw [List.take_succ_eq_append_getElem hlt, lst_snoc]
      have hkey := Aside0.mk (keyOf_int_mk Tryd.underlying3 (HR.out _ (List.getElem_mem hlt)))
      have HST : Aside0 (∀ (w1 : World) (o : Obj), w1.ownsMap Tryd.prog 3 (unitElem (H := Unit)) (w.heap.size + 1) (k + 1) ((setOf (.agg []) ((ps.take k).map keyN)).put (keyN ps[k]) (.agg [])) → (wr.alloc o).grownBy w1 (some (w.heap.size + 1)) → St w w1 _ ps (k + 1)) := ⟨fun w1 o a b => HS.out.step hlt o a b⟩
      have HM : Aside0 ((wr.alloc (.cells #[.int .i64 ps[k].f0, .int .u64 ps[k].f1, .int .u64 ps[k].f2, .int .i64 ps[k].f3, .int .i64 ps[k].f4, .int .i64 ps[k].f5, .int .u32 ps[k].f6, .int .u32 ps[k].f7] 36)).ownsMap Tryd.prog 3 (unitElem (H := Unit)) (w.heap.size + 1) k (setOf (.agg []) ((ps.take k).map keyN))) := ⟨HS.out.own.alloc _⟩
      have HLT := Aside0.mk HS.out.own.lt
      generalize hx : ps[k] = x at y0 y1 y2 y3 y4 y5 y6 y7 hyes hno hnx hkey HST HM
      have HX := Aside0.mk hx
      have HYES := Aside0.mk hyes
      have HNO := Aside0.mk hno
      have HNX := Aside0.mk hnx
      clear hget HCr hyes hno hx hnx
      generalize lst nxN 0 (ps.take k) = st at HYES HNO ⊢
      go_upto_region 9 with (first | (at_mapUpdate; refine wpList_mapUpdate_own _ rfl _ _ _ 101 rfl 3 102 LW.out Tryd.underlying101 (unitElem (H := Unit)) (w.heap.size + 1) k _ rfl HM.out (by unfold maxLen; omega) _ _ _ rfl rfl hkey.out _ [] unitElem_mk ?_; intro w1 hown1 hgrow1))
      have HS1 := Aside0.mk (HST.out w1 _ hown1 hgrow1)
      have hpx : w1.heap[wr.heap.size]? = some (.cells #[.int .i64 x.f0, .int .u64 x.f1, .int .u64 x.f2, .int .i64 x.f3, .int .i64 x.f4, .int .i64 x.f5, .int .u32 x.f6, .int .u32 x.f7] 36 (0, 0)) :=
        (hgrow1.block _ (by simp) (fun e => by injection e with e; have := HLT.out; omega)).trans (heap_alloc_new _ _)
      clear hown1 hgrow1 HST HM hkey y0 y1 y2 y3 y4 y5 y6 y7 HS
      obtain ⟨x0, x1, x2⟩ : w1.cell? ⟨w.heap.size, 0, none⟩ = some (.int .i64 gen) ∧ w1.cell? ⟨w.heap.size, 1, none⟩ = some (.int .i64 next) ∧ w1.cell? ⟨w.heap.size, 2, none⟩ = some (.int .u64 upto) := ⟨(blk_cell HS1.out.box 0).trans rfl, (blk_cell HS1.out.box 1).trans rfl, (blk_cell HS1.out.box 2).trans rfl⟩
      obtain ⟨y0, y1, y2, y3, y4, y5, y7⟩ : w1.cell? ⟨wr.heap.size, 0, none⟩ = some (.int .i64 x.f0) ∧ w1.cell? ⟨wr.heap.size, 1, none⟩ = some (.int .u64 x.f1) ∧ w1.cell? ⟨wr.heap.size, 2, none⟩ = some (.int .u64 x.f2) ∧ w1.cell? ⟨wr.heap.size, 3, none⟩ = some (.int .i64 x.f3) ∧ w1.cell? ⟨wr.heap.size, 4, none⟩ = some (.int .i64 x.f4) ∧ w1.cell? ⟨wr.heap.size, 5, none⟩ = some (.int .i64 x.f5) ∧ w1.cell? ⟨wr.heap.size, 7, none⟩ = some (.int .u32 x.f7) :=
        ⟨(blk_cell hpx 0).trans rfl, (blk_cell hpx 1).trans rfl, (blk_cell hpx 2).trans rfl, (blk_cell hpx 3).trans rfl, (blk_cell hpx 4).trans rfl, (blk_cell hpx 5).trans rfl, (blk_cell hpx 7).trans rfl⟩
      clear hpx
      cases hcn : cN gen next upto st x
      · have hbad := bad_of hcn
        have HF := Aside0.mk (HNO.out hcn)
        clear hcn
        cases hbad
        all_goals (
          go_wp2
          go_ret
          exact ⟨by rw [HF.out]; rfl, HS1.out.below⟩)
      · have HF := Aside0.mk (HYES.out hcn)
        unfold cN at hcn
        rw [decide_eq_true_eq] at hcn
        obtain ⟨c1, c2, c3, c4, c5, c6, c7, c8, c9, c10, c11, c12, c13⟩ := hcn
        by_cases e0 : x.f4 = 0
        · have e1 : (x.f4 == 0) = true := beq_iff_eq.2 e0
          have e2 : (x.f5 == 0) = true := beq_iff_eq.2 (c12.1 e0)
          have e3 : (x.f7 == 0) = true := beq_iff_eq.2 (c13 e0)
          clear c12 c13 e0
          go_wp2
          go_roundw
          case rel => exact ⟨k + 1, by omega, by go_num, by rw [HNX.out]; rfl, HF.out, HS1⟩
          case measure => simp [intOf]; omega
        · have e1 : (x.f4 == 0) = false := beq_eq_false_iff_ne.2 e0
          have e2 : (x.f5 == 0) = false := beq_eq_false_iff_ne.2 (fun h => e0 (c12.2 h))
          clear c12 c13 e0
          go_wp2
          go_roundw
          case rel => exact ⟨k + 1, by omega, by go_num, by rw [HNX.out]; rfl, HF.out, HS1⟩
          case measure => simp [intOf]; omega
    · obtain rfl : k = ps.length := by omega
      have hok := HOK.out
      rw [List.take_length] at hok ⊢
      have ho := HS.out.own
      rw [List.take_length] at ho
      have hsz := set_size ps
      have HM := Aside0.mk ho
      have HOK := Aside0.mk hok
      obtain ⟨x0, x3⟩ : wr.cell? ⟨w.heap.size, 0, none⟩ = some (.int .i64 gen) ∧ wr.cell? ⟨w.heap.size, 3, none⟩ = some (.slice A ps.length c) := ⟨(blk_cell HS.out.box 0).trans rfl, (blk_cell HS.out.box 3).trans rfl⟩
      clear hok ho
      obtain ⟨sz, hs0⟩ : ∃ sz, Maps.size (setOf (H := Unit) (.agg []) (ps.map keyN)) = sz := ⟨_, rfl⟩
      rw [hs0] at hsz
      have HZ := Aside0.mk hs0
      have HN : Aside0 (((sz : Int) == (ps.length : Int)) = decide (ps.map (fun p => p.f0)).Nodup) := ⟨by
        rw [Bool.eq_iff_iff, beq_iff_eq, decide_eq_true_eq]
        exact ⟨fun h => hsz.1 (by omega), fun h => by have := hsz.2 h; omega⟩⟩
      clear hs0 hsz
      go_wp2_with (first | (at_len; refine wpList_len_own _ rfl _ 101 rfl 3 102 Tryd.underlying101 (unitElem (H := Unit)) (w.heap.size + 1) ps.length _ rfl HM.out ?_; rw [HZ.out]))
      go_ret
      exact ⟨by rw [HOK.out, ← HN.out]; rfl, HS.out.below⟩
theorem good_any (gen next upto : Int) (A : Option Addr) (c : Nat) (ps : List SN) (w : World) (hC : Kd.C k36 w A ps.length ps) (hc : ps.length ≤ c) (hn : ps.length ≤ 9223372036854775807) (hr : ∀ x ∈ ps, (Lit.int .i64 x.f0).wf = true) :
    Calls Tryd.prog 28 #[.agg #[.int .i64 gen, .int .i64 next, .int .u64 upto, .slice A ps.length c]] w fun e w' => e = .returned (.bool (gdN gen next upto ps)) ∧ Below w.heap.size w w' := by
  by_cases h : (1 ≤ gen ∧ gen ≤ 99999999 ∧ 1 ≤ next ∧ next ≤ 100000000 ∧ upto ≤ 4611686018427387903 ∧ ps.length ≤ 256)
  · have e : gdN gen next upto ps = (oksN gen next upto 0 ps && decide (ps.map (fun p => p.f0)).Nodup) := by unfold gdN; rw [decide_eq_true h, Bool.true_and]
    rw [e]
    exact good_in gen next upto A c ps w hC hc hr h
  · have e : gdN gen next upto ps = false := by unfold gdN; rw [decide_eq_false h, Bool.false_and]
    rw [e]
    exact good_no gen next upto A c ps w hn h
end Go.Proofs.YtejjidggnnhgjaaDoor.HImGm
/- The closure of DecodeManifest of layer 12, by the program. -/
set_option linter.unusedVariables false
set_option linter.unusedSimpArgs false
namespace Go.Proofs.YtejjidggnnhgjaaDoor.HImCm
open Go.RowKit Go.Proofs.YtejjidggnnhgjaaDoor.PImg Go.Proofs.YtejjidggnnhgjaaDoor.HBase Go.Proofs.YtejjidggnnhgjaaDoor.HBlob Go.Proofs.YtejjidggnnhgjaaDoor.HSum Go.Proofs.YtejjidggnnhgjaaDoor.HCk Go.Proofs.YtejjidggnnhgjaaDoor.HImgW Go.Proofs.YtejjidggnnhgjaaDoor.HImgR Go.Proofs.YtejjidggnnhgjaaDoor.HImgO Go.Proofs.YtejjidggnnhgjaaDoor.HImP Go.Proofs.YtejjidggnnhgjaaDoor.HImD Go.Proofs.YtejjidggnnhgjaaDoor.HImR2 Go.Proofs.YtejjidggnnhgjaaDoorW.PrintWords Go.Proofs.YtejjidggnnhgjaaDoorW.PrintLast Go.Proofs.YtejjidggnnhgjaaDoorW.PrintMore Go.Proofs.YtejjidggnnhgjaaDoor.HCore
def cells (r : Int × Int × Int × List SN) (u : Value) : Array Value := #[.int .i64 r.1, .int .i64 r.2.1, .int .u64 r.2.2.1, u]
/-- What the closure leaves. -/
def Left (w : World) (pb rb : Nat) (s : ByteArray) (D : Option ((Int × Int × Int × List SN) × Int)) (e : Ending) (w' : World) : Prop :=
  Two pb rb w w' ∧ match D with
  | some rq => e = .returned (.tuple #[]) ∧ w'.heap[rb]? = some (Rd s rq.2) ∧ ∃ u, w'.heap[pb]? = some (.cells (cells rq.1 u) 25 (0, 0)) ∧ Kd.R k36 36 w' w.heap.size (fun _ => True) u rq.1.2.2.2
  | none => e = gives
theorem Left.gone {w w' : World} {pb rb : Nat} {s : ByteArray} {D : Option ((Int × Int × Int × List SN) × Int)} (h : Two pb rb w w') (hD : D = none) : Left w pb rb s D gives w' := by subst hD; exact ⟨h, rfl⟩
theorem Left.read {w w' : World} {pb rb : Nat} {s : ByteArray} {D : Option ((Int × Int × Int × List SN) × Int)} {r : Int × Int × Int × List SN} {q : Int} {u : Value} (h : Two pb rb w w') (hD : D = some (r, q)) (h1 : w'.heap[rb]? = some (Rd s q)) (h2 : w'.heap[pb]? = some (.cells (cells r u) 25 (0, 0))) (h3 : Kd.R k36 36 w' w.heap.size (fun _ => True) u r.2.2.2) : Left w pb rb s D (.returned (.tuple #[])) w' := by subst hD; exact ⟨h, rfl, h1, u, h2, h3⟩
set_option maxRecDepth 100000 in
set_option maxHeartbeats 16000000 in
theorem inner (w : World) (pb rb : Nat) (s : ByteArray) (hs : s.size ≤ 4611686018427387904) (hpb : w.heap[pb]? = some (.cells #[.int .i64 0, .int .i64 0, .int .u64 0, .slice none 0 0] 25 (0, 0))) (hrb : w.heap[rb]? = some (Rd s 0)) (hne : pb ≠ rb) :
    Calls Tryd.prog 39 #[.pointer (some ⟨rb, 0, none⟩), .pointer (some ⟨pb, 0, none⟩)] w fun e w' => Left w pb rb s (dcN s) e w' := by
  have HT : Aside0 (St k36 36 25 w pb rb rb s 0 #[.int .i64 0, .int .i64 0, .int .u64 0, .slice none 0 0] (.slice none 0 0) [] w) := ⟨⟨Two.refl _ _ _, hpb, hrb, Kd.R_nil _ _ _ _ _, ⟨_, hpb⟩, ⟨_, hrb⟩, hne⟩⟩
  have HS := Aside0.mk hs
  have hD : dcN s = _ := rfl
  conv at hD => rhs; unfold dcN
  have HD := Aside0.mk hD
  clear hD hpb hrb hs
  go_enter Tryd.func39, Tryd.ntmps39
  go_wp2_with fail
  rcases hr_gen : nm s 0 99999999 with _ | ⟨gen, q_gen⟩
  · have HR := Aside0.mk hr_gen
    have hD := HD.out
    rw [hr_gen, Option.bind_none] at hD
    have HD := Aside0.mk hD
    clear hD hr_gen
    refine (num_gone rb s 0 _ HT.out.rdr HS.out _ HR.out).mono ?_
    rintro e wg ⟨he, hd⟩
    unfold gives at he
    subst he
    have HL := Aside0.mk (Left.gone (s := s) (HT.out.drawn hd).two HD.out)
    clear hd
    go_wp2
    exact ⟨rfl, HL.out⟩
  obtain ⟨gen_0, gen_1, gen_2, _⟩ := nm_drop hr_gen
  have HR := Aside0.mk hr_gen
  have hD := HD.out
  rw [hr_gen, Option.bind_some] at hD
  simp only at hD
  have HD := Aside0.mk hD
  clear hD hr_gen
  refine (num_ok rb s 0 _ HT.out.rdr HS.out _ _ _ HR.out).mono ?_
  rintro e w1 ⟨rfl, ht, hg⟩
  have HT := Aside0.mk (HT.out.reads ht hg)
  clear hg HR
  clear ht
  have c0 : _ = some (Value.int .i64 0) := (blk_cell HT.out.pair 0).trans rfl
  have c1 : _ = some (Value.int .i64 0) := (blk_cell HT.out.pair 1).trans rfl
  have c2 : _ = some (Value.int .u64 0) := (blk_cell HT.out.pair 2).trans rfl
  have c3 : _ = some (Value.slice none 0 0) := (blk_cell HT.out.pair 3).trans rfl
  have f0 := blk_frozen HT.out.pair 0
  have HT : Aside0 (St k36 36 25 w pb rb rb s q_gen #[.int .i64 gen, .int .i64 0, .int .u64 0, .slice none 0 0] (.slice none 0 0) [] (w1.setCell ⟨pb, 0, none⟩ (.int .i64 gen))) := ⟨HT.out.put 0 _⟩
  go_wp2_with fail
  rcases hr_next : nm s (q_gen) 100000000 with _ | ⟨next, q_next⟩
  · have HR := Aside0.mk hr_next
    have hD := HD.out
    rw [hr_next, Option.bind_none] at hD
    have HD := Aside0.mk hD
    clear hD hr_next
    refine (num_gone rb s (q_gen) _ HT.out.rdr HS.out _ HR.out).mono ?_
    rintro e wg ⟨he, hd⟩
    unfold gives at he
    subst he
    have HL := Aside0.mk (Left.gone (s := s) (HT.out.drawn hd).two HD.out)
    clear hd
    go_wp2
    exact ⟨rfl, HL.out⟩
  obtain ⟨next_0, next_1, next_2, _⟩ := nm_drop hr_next
  have HR := Aside0.mk hr_next
  have hD := HD.out
  rw [hr_next, Option.bind_some] at hD
  simp only at hD
  have HD := Aside0.mk hD
  clear hD hr_next
  clear c0 c1 c2 c3 f0
  refine (num_ok rb s (q_gen) _ HT.out.rdr HS.out _ _ _ HR.out).mono ?_
  rintro e w2 ⟨rfl, ht, hg⟩
  have HT := Aside0.mk (HT.out.reads ht hg)
  clear hg HR
  clear ht
  have c0 : _ = some (Value.int .i64 gen) := (blk_cell HT.out.pair 0).trans rfl
  have c1 : _ = some (Value.int .i64 0) := (blk_cell HT.out.pair 1).trans rfl
  have c2 : _ = some (Value.int .u64 0) := (blk_cell HT.out.pair 2).trans rfl
  have c3 : _ = some (Value.slice none 0 0) := (blk_cell HT.out.pair 3).trans rfl
  have f1 := blk_frozen HT.out.pair 1
  have HT : Aside0 (St k36 36 25 w pb rb rb s q_next #[.int .i64 gen, .int .i64 next, .int .u64 0, .slice none 0 0] (.slice none 0 0) [] (w2.setCell ⟨pb, 1, none⟩ (.int .i64 next))) := ⟨HT.out.put 1 _⟩
  go_wp2_with fail
  rcases hr_upto : nm s (q_next) 4611686018427387903 with _ | ⟨upto, q_upto⟩
  · have HR := Aside0.mk hr_upto
    have hD := HD.out
    rw [hr_upto, Option.bind_none] at hD
    have HD := Aside0.mk hD
    clear hD hr_upto
    refine (num_gone rb s (q_next) _ HT.out.rdr HS.out _ HR.out).mono ?_
    rintro e wg ⟨he, hd⟩
    unfold gives at he
    subst he
    have HL := Aside0.mk (Left.gone (s := s) (HT.out.drawn hd).two HD.out)
    clear hd
    go_wp2
    exact ⟨rfl, HL.out⟩
  obtain ⟨upto_0, upto_1, upto_2, _⟩ := nm_drop hr_upto
  have HR := Aside0.mk hr_upto
  have hD := HD.out
  rw [hr_upto, Option.bind_some] at hD
  simp only at hD
  have HD := Aside0.mk hD
  clear hD hr_upto
  clear c0 c1 c2 c3 f1
  refine (num_ok rb s (q_next) _ HT.out.rdr HS.out _ _ _ HR.out).mono ?_
  rintro e w3 ⟨rfl, ht, hg⟩
  have HT := Aside0.mk (HT.out.reads ht hg)
  clear hg HR
  clear ht
  have c0 : _ = some (Value.int .i64 gen) := (blk_cell HT.out.pair 0).trans rfl
  have c1 : _ = some (Value.int .i64 next) := (blk_cell HT.out.pair 1).trans rfl
  have c2 : _ = some (Value.int .u64 0) := (blk_cell HT.out.pair 2).trans rfl
  have c3 : _ = some (Value.slice none 0 0) := (blk_cell HT.out.pair 3).trans rfl
  have f2 := blk_frozen HT.out.pair 2
  have HT : Aside0 (St k36 36 25 w pb rb rb s q_upto #[.int .i64 gen, .int .i64 next, .int .u64 upto, .slice none 0 0] (.slice none 0 0) [] (w3.setCell ⟨pb, 2, none⟩ (.int .u64 upto))) := ⟨HT.out.put 2 _⟩
  go_wp2_with fail
  rcases hr_m : nm s (q_upto) 256 with _ | ⟨m, q_m⟩
  · have HR := Aside0.mk hr_m
    have hD := HD.out
    rw [hr_m, Option.bind_none] at hD
    have HD := Aside0.mk hD
    clear hD hr_m
    refine (num_gone rb s (q_upto) _ HT.out.rdr HS.out _ HR.out).mono ?_
    rintro e wg ⟨he, hd⟩
    unfold gives at he
    subst he
    have HL := Aside0.mk (Left.gone (s := s) (HT.out.drawn hd).two HD.out)
    clear hd
    go_wp2
    exact ⟨rfl, HL.out⟩
  obtain ⟨m_0, m_1, m_2, _⟩ := nm_drop hr_m
  have HR := Aside0.mk hr_m
  have hD := HD.out
  rw [hr_m, Option.bind_some] at hD
  simp only at hD
  have HD := Aside0.mk hD
  clear hD hr_m
  clear c0 c1 c2 c3 f2
  refine (num_ok rb s (q_upto) _ HT.out.rdr HS.out _ _ _ HR.out).mono ?_
  rintro e w4 ⟨rfl, ht, hg⟩
  have HT := Aside0.mk (HT.out.reads ht hg)
  clear hg HR
  clear ht
  have c0 : _ = some (Value.int .i64 gen) := (blk_cell HT.out.pair 0).trans rfl
  have c1 : _ = some (Value.int .i64 next) := (blk_cell HT.out.pair 1).trans rfl
  have c2 : _ = some (Value.int .u64 upto) := (blk_cell HT.out.pair 2).trans rfl
  have c3 : _ = some (Value.slice none 0 0) := (blk_cell HT.out.pair 3).trans rfl
  obtain ⟨m, rfl⟩ := Int.eq_ofNat_of_zero_le m_0
  rw [Int.toNat_natCast] at HD
  go_wp2
  clear c0 c1 c2 c3
  have mm : m ≤ 256 := by omega
  clear m_0 m_1 m_2
  go_loopw [3, 4] (fun v3 v4 wr => ∃ (m : Nat) (p last : Int) (u : Value) (l : List SN), v4 = .int .u64 (m : Int) ∧ v3 = .int .u64 last ∧ 0 ≤ last ∧ last ≤ 4611686018427387903 ∧ l.length + m ≤ 256 ∧ Aside0 (St k36 36 25 w pb rb rb s p #[.int .i64 gen, .int .i64 next, .int .u64 upto, u] u l wr) ∧ Aside0 (dcN s = (rn (rcN s) nxN m last p l).bind (fun r => if gdN gen next upto r.1 = true then some ((gen, next, upto, r.1), r.2) else none)) ∧ Aside0 (∀ x ∈ l, (Lit.int .i64 x.f0).wf = true)) (fun _ v4 _ => (intOf v4).toNat)
  case atStart => exact ⟨m, q_m, 0, _, [], rfl, rfl, by omega, by omega, by rw [List.length_nil]; omega, HT, HD, ⟨fun x hx => by cases hx⟩⟩
  case round =>
    clear HT HD mm
    obtain ⟨m, p, last, u, l, rfl, rfl, last_0, last_1, hl, HT, HD, HRg⟩ := hrel
    rcases m with _ | d
    · have hD := HD.out
      simp only [rn, Option.bind_some] at hD
      have HD := Aside0.mk hD
      clear hD
      obtain ⟨A, c, rfl, hc, hC⟩ := Kd.R_reads HT.out.own
      have HC := Aside0.mk hC
      clear hC
      have c0 : _ = some (Value.int .i64 gen) := (blk_cell HT.out.pair 0).trans rfl
      have c1 : _ = some (Value.int .i64 next) := (blk_cell HT.out.pair 1).trans rfl
      have c2 : _ = some (Value.int .u64 upto) := (blk_cell HT.out.pair 2).trans rfl
      have c3 : _ = some (Value.slice A l.length c) := (blk_cell HT.out.pair 3).trans rfl
      cases hgd : gdN gen next upto l
      · have hD := HD.out
        rw [hgd] at hD
        simp only [Bool.false_eq_true, if_false] at hD
        have HD := Aside0.mk hD
        clear hD
        have HK := Aside0.mk hgd
        clear hgd
        go_wp2_with fail
        clear c0 c1 c2 c3
        refine (HImGm.good_any gen next upto A c l _ HC.out hc (by omega) ?hr).mono ?_
        case hr => exact HRg.out
        rw [HK.out]
        rintro e wq ⟨rfl, hb⟩
        have HT := Aside0.mk (HT.out.below hb)
        clear hb HC HK
        go_wp2_with fail
        refine (need_gone _).mono ?_
        rintro e wz ⟨he, rfl⟩
        unfold gives at he
        subst he
        have HL := Aside0.mk (Left.gone (s := s) HT.out.two HD.out)
        go_wp2
        exact ⟨rfl, HL.out⟩
      · have hD := HD.out
        rw [hgd] at hD
        simp only [if_pos] at hD
        have HD := Aside0.mk hD
        clear hD
        have HK := Aside0.mk hgd
        clear hgd
        go_wp2_with fail
        clear c0 c1 c2 c3
        refine (HImGm.good_any gen next upto A c l _ HC.out hc (by omega) ?hr).mono ?_
        case hr => exact HRg.out
        rw [HK.out]
        rintro e wq ⟨rfl, hb⟩
        have HT := Aside0.mk (HT.out.below hb)
        clear hb HC HK
        go_wp2_with fail
        refine (need_ok _).mono ?_
        rintro e wz ⟨rfl, rfl⟩
        go_wp2
        go_end0
        exact Left.read HT.out.two HD.out HT.out.rdr HT.out.pair (Kd.R_mono HT.out.own (fun _ _ => trivial))
    have hD := HD.out
    simp only [rn, rcN, Option.bind_assoc, Option.bind_some] at hD
    have HD := Aside0.mk hD
    clear hD
    rw [show ((d + 1 : Nat) : Int) = (d : Int) + 1 by omega]
    have c0 : _ = some (Value.int .i64 gen) := (blk_cell HT.out.pair 0).trans rfl
    have c1 : _ = some (Value.int .i64 next) := (blk_cell HT.out.pair 1).trans rfl
    have c2 : _ = some (Value.int .u64 upto) := (blk_cell HT.out.pair 2).trans rfl
    have c3 : _ = some u := (blk_cell HT.out.pair 3).trans rfl
    go_wp2_with fail
    rcases hr_a : nm s p 99999999 with _ | ⟨a, q_a⟩
    · have HR := Aside0.mk hr_a
      have hD := HD.out
      rw [hr_a, Option.bind_none] at hD
      have HD := Aside0.mk hD
      clear hD hr_a
      refine (num_gone rb s p _ HT.out.rdr HS.out _ HR.out).mono ?_
      rintro e wg ⟨he, hd⟩
      unfold gives at he
      subst he
      have HL := Aside0.mk (Left.gone (s := s) (HT.out.drawn hd).two HD.out)
      clear hd
      go_wp2
      exact ⟨rfl, HL.out⟩
    obtain ⟨a_0, a_1, a_2, _⟩ := nm_drop hr_a
    have HR := Aside0.mk hr_a
    have hD := HD.out
    rw [hr_a, Option.bind_some] at hD
    simp only at hD
    have HD := Aside0.mk hD
    clear hD hr_a
    clear c0 c1 c2 c3
    refine (num_ok rb s p _ HT.out.rdr HS.out _ _ _ HR.out).mono ?_
    rintro e w5 ⟨rfl, ht, hg⟩
    have HT := Aside0.mk (HT.out.reads ht hg)
    clear hg HR
    clear ht
    have HV := Aside0.mk (heap_alloc_new w5 (.cells #[.int .i64 a, .int .u64 0, .int .u64 0, .int .i64 0, .int .i64 0, .int .i64 0, .int .u32 0, .int .u32 0] 36))
    have hnb : w.heap.size ≤ w5.heap.size := HT.out.two.size
    have hnr : w5.heap.size ≠ rb := Nat.ne_of_gt (blk_lt HT.out.rdr)
    have HT := Aside0.mk (HT.out.new (.cells #[.int .i64 a, .int .u64 0, .int .u64 0, .int .i64 0, .int .i64 0, .int .i64 0, .int .u32 0, .int .u32 0] 36))
    have c0 : _ = some (Value.int .i64 gen) := (blk_cell HT.out.pair 0).trans rfl
    have c1 : _ = some (Value.int .i64 next) := (blk_cell HT.out.pair 1).trans rfl
    have c2 : _ = some (Value.int .u64 upto) := (blk_cell HT.out.pair 2).trans rfl
    have c3 : _ = some u := (blk_cell HT.out.pair 3).trans rfl
    go_wp2_with fail
    rcases hr_b : nm s (q_a) (4611686018427387903 - last) with _ | ⟨b, q_b⟩
    · have HR := Aside0.mk hr_b
      have hD := HD.out
      rw [hr_b, Option.bind_none] at hD
      have HD := Aside0.mk hD
      clear hD hr_b
      refine (num_gone rb s (q_a) _ HT.out.rdr HS.out _ HR.out).mono ?_
      rintro e wg ⟨he, hd⟩
      unfold gives at he
      subst he
      have HL := Aside0.mk (Left.gone (s := s) (HT.out.drawn hd).two HD.out)
      clear hd
      go_wp2
      exact ⟨rfl, HL.out⟩
    obtain ⟨b_0, b_1, b_2, _⟩ := nm_drop hr_b
    have HR := Aside0.mk hr_b
    have hD := HD.out
    rw [hr_b, Option.bind_some] at hD
    simp only at hD
    have HD := Aside0.mk hD
    clear hD hr_b
    clear c0 c1 c2 c3
    refine (num_ok rb s (q_a) _ HT.out.rdr HS.out _ _ _ HR.out).mono ?_
    rintro e w6 ⟨rfl, ht, hg⟩
    have HT := Aside0.mk (HT.out.reads ht hg)
    clear hg HR
    have HV := Aside0.mk (ht.blk HV.out hnr)
    clear ht
    generalize w5.heap.size = nb at HV HT hnb hnr ⊢
    have y0 : _ = some (Value.int .i64 a) := (blk_cell HV.out 0).trans rfl
    have y1 : _ = some (Value.int .u64 0) := (blk_cell HV.out 1).trans rfl
    have y2 : _ = some (Value.int .u64 0) := (blk_cell HV.out 2).trans rfl
    have y3 : _ = some (Value.int .i64 0) := (blk_cell HV.out 3).trans rfl
    have y4 : _ = some (Value.int .i64 0) := (blk_cell HV.out 4).trans rfl
    have y5 : _ = some (Value.int .i64 0) := (blk_cell HV.out 5).trans rfl
    have y6 : _ = some (Value.int .u32 0) := (blk_cell HV.out 6).trans rfl
    have y7 : _ = some (Value.int .u32 0) := (blk_cell HV.out 7).trans rfl
    have g1 := blk_frozen HV.out 1
    have c0 : _ = some (Value.int .i64 gen) := (blk_cell HT.out.pair 0).trans rfl
    have c1 : _ = some (Value.int .i64 next) := (blk_cell HT.out.pair 1).trans rfl
    have c2 : _ = some (Value.int .u64 upto) := (blk_cell HT.out.pair 2).trans rfl
    have c3 : _ = some u := (blk_cell HT.out.pair 3).trans rfl
    have HV : Aside0 ((w6.setCell ⟨nb, 1, none⟩ (.int .u64 (last + b))).heap[nb]? = some (.cells #[.int .i64 a, .int .u64 (last + b), .int .u64 0, .int .i64 0, .int .i64 0, .int .i64 0, .int .u32 0, .int .u32 0] 36 (0, 0))) := ⟨(blk_set HV.out 1 (.int .u64 (last + b))).trans rfl⟩
    have HT := Aside0.mk (HT.out.far hnb 1 (.int .u64 (last + b)))
    rcases hr_c : nm s (q_b) (4611686018427387903 - (last + b)) with _ | ⟨c, q_c⟩
    · have HR := Aside0.mk hr_c
      have hD := HD.out
      rw [hr_c, Option.bind_none] at hD
      have HD := Aside0.mk hD
      clear hD hr_c
      go_upto_region 9 with (fail)
      clear y0 y1 y2 y3 y4 y5 y6 y7 g1
      have y0 : _ = some (Value.int .i64 a) := (blk_cell HV.out 0).trans rfl
      have y1 : _ = some (Value.int .u64 (last + b)) := (blk_cell HV.out 1).trans rfl
      have y2 : _ = some (Value.int .u64 0) := (blk_cell HV.out 2).trans rfl
      have y3 : _ = some (Value.int .i64 0) := (blk_cell HV.out 3).trans rfl
      have y4 : _ = some (Value.int .i64 0) := (blk_cell HV.out 4).trans rfl
      have y5 : _ = some (Value.int .i64 0) := (blk_cell HV.out 5).trans rfl
      have y6 : _ = some (Value.int .u32 0) := (blk_cell HV.out 6).trans rfl
      have y7 : _ = some (Value.int .u32 0) := (blk_cell HV.out 7).trans rfl
      have g2 := blk_frozen HV.out 2
      have hw1 : IntKind.u64.wrap (4611686018427387903 - (last + b)) = 4611686018427387903 - (last + b) := wu64 (by omega) (by omega)
      go_region_with (first | (go_at_call 40; refine num_fake rb s q_b _ (by first | exact HT.out.rdr | exact HT.out.drew.rdr) HS.out _ HR.out (fun wg hd => ⟨rfl, Left.gone (s := s) (HT.out.drew.drawn hd).two HD.out⟩) (fun HF => ?_)))
      all_goals exact HF.out.elim
    obtain ⟨c_0, c_1, c_2, _⟩ := nm_drop hr_c
    have HR := Aside0.mk hr_c
    have hD := HD.out
    rw [hr_c, Option.bind_some] at hD
    simp only at hD
    have HD := Aside0.mk hD
    clear hD hr_c
    go_upto_region 9 with (fail)
    clear y0 y1 y2 y3 y4 y5 y6 y7 g1
    have y0 : _ = some (Value.int .i64 a) := (blk_cell HV.out 0).trans rfl
    have y1 : _ = some (Value.int .u64 (last + b)) := (blk_cell HV.out 1).trans rfl
    have y2 : _ = some (Value.int .u64 0) := (blk_cell HV.out 2).trans rfl
    have y3 : _ = some (Value.int .i64 0) := (blk_cell HV.out 3).trans rfl
    have y4 : _ = some (Value.int .i64 0) := (blk_cell HV.out 4).trans rfl
    have y5 : _ = some (Value.int .i64 0) := (blk_cell HV.out 5).trans rfl
    have y6 : _ = some (Value.int .u32 0) := (blk_cell HV.out 6).trans rfl
    have y7 : _ = some (Value.int .u32 0) := (blk_cell HV.out 7).trans rfl
    have g2 := blk_frozen HV.out 2
    go_cut [] (fun wx => Aside0 (St k36 36 25 w pb rb nb s q_c #[.int .i64 gen, .int .i64 next, .int .u64 upto, u] u l wx) ∧ Aside0 (wx.heap[nb]? = some (.cells #[.int .i64 a, .int .u64 (last + b), .int .u64 (last + b + c), .int .i64 0, .int .i64 0, .int .i64 0, .int .u32 0, .int .u32 0] 36 (0, 0))))
    case first =>
      have hw1 : IntKind.u64.wrap (4611686018427387903 - (last + b)) = 4611686018427387903 - (last + b) := wu64 (by omega) (by omega)
      have hw2 : IntKind.u64.wrap (last + b + c) = last + b + c := wu64 (by omega) (by omega)
      go_region_with (first | (go_at_call 40; refine (num_ok rb s q_b _ (by first | exact HT.out.rdr | exact HT.out.drew.rdr) HS.out _ _ _ HR.out).mono ?_; rintro e wk ⟨rfl, ht, hg⟩; have HT2 := Aside0.mk (HT.out.drew.reads ht hg); have HV2 := Aside0.mk (ht.blk (show _ = some _ from HV.out) hnr); have z1 : _ = some (Value.int .u64 (last + b)) := (blk_cell HV2.out 1).trans rfl; have z2 : _ = some (Value.int .u64 0) := (blk_cell HV2.out 2).trans rfl; have zf := blk_frozen HV2.out 2; clear ht hg))
      all_goals (go_wp2_with fail; go_meet; case rel => exact ⟨⟨HT2.out.far hnb 2 _⟩, ⟨(blk_set HV2.out 2 _).trans rfl⟩⟩)
    clear y0 y1 y2 y3 y4 y5 y6 y7 g2
    clear c0 c1 c2 c3
    obtain ⟨HT, HV⟩ := hcut
    obtain ⟨w7, rfl⟩ : ∃ x, x = wc := ⟨_, rfl⟩
    clear HR
    have y0 : _ = some (Value.int .i64 a) := (blk_cell HV.out 0).trans rfl
    have y1 : _ = some (Value.int .u64 (last + b)) := (blk_cell HV.out 1).trans rfl
    have y2 : _ = some (Value.int .u64 (last + b + c)) := (blk_cell HV.out 2).trans rfl
    have y3 : _ = some (Value.int .i64 0) := (blk_cell HV.out 3).trans rfl
    have y4 : _ = some (Value.int .i64 0) := (blk_cell HV.out 4).trans rfl
    have y5 : _ = some (Value.int .i64 0) := (blk_cell HV.out 5).trans rfl
    have y6 : _ = some (Value.int .u32 0) := (blk_cell HV.out 6).trans rfl
    have y7 : _ = some (Value.int .u32 0) := (blk_cell HV.out 7).trans rfl
    have c0 : _ = some (Value.int .i64 gen) := (blk_cell HT.out.pair 0).trans rfl
    have c1 : _ = some (Value.int .i64 next) := (blk_cell HT.out.pair 1).trans rfl
    have c2 : _ = some (Value.int .u64 upto) := (blk_cell HT.out.pair 2).trans rfl
    have c3 : _ = some u := (blk_cell HT.out.pair 3).trans rfl
    go_wp2_with fail
    clear y0 y1 y2 y3 y4 y5 y6 y7
    clear c0 c1 c2 c3
    rcases hr_d3 : nm s (q_c) 65536 with _ | ⟨d3, q_d3⟩
    · have HR := Aside0.mk hr_d3
      have hD := HD.out
      rw [hr_d3, Option.bind_none] at hD
      have HD := Aside0.mk hD
      clear hD hr_d3
      refine (num_gone rb s (q_c) _ HT.out.rdr HS.out _ HR.out).mono ?_
      rintro e wg ⟨he, hd⟩
      unfold gives at he
      subst he
      have HL := Aside0.mk (Left.gone (s := s) (HT.out.drawn hd).two HD.out)
      clear hd
      go_wp2
      exact ⟨rfl, HL.out⟩
    obtain ⟨d3_0, d3_1, d3_2, _⟩ := nm_drop hr_d3
    have HR := Aside0.mk hr_d3
    have hD := HD.out
    rw [hr_d3, Option.bind_some] at hD
    simp only at hD
    have HD := Aside0.mk hD
    clear hD hr_d3
    refine (num_ok rb s (q_c) _ HT.out.rdr HS.out _ _ _ HR.out).mono ?_
    rintro e w8 ⟨rfl, ht, hg⟩
    have HT := Aside0.mk (HT.out.reads ht hg)
    clear hg HR
    have HV := Aside0.mk (ht.blk HV.out hnr)
    clear ht
    have y0 : _ = some (Value.int .i64 a) := (blk_cell HV.out 0).trans rfl
    have y1 : _ = some (Value.int .u64 (last + b)) := (blk_cell HV.out 1).trans rfl
    have y2 : _ = some (Value.int .u64 (last + b + c)) := (blk_cell HV.out 2).trans rfl
    have y3 : _ = some (Value.int .i64 0) := (blk_cell HV.out 3).trans rfl
    have y4 : _ = some (Value.int .i64 0) := (blk_cell HV.out 4).trans rfl
    have y5 : _ = some (Value.int .i64 0) := (blk_cell HV.out 5).trans rfl
    have y6 : _ = some (Value.int .u32 0) := (blk_cell HV.out 6).trans rfl
    have y7 : _ = some (Value.int .u32 0) := (blk_cell HV.out 7).trans rfl
    have g3 := blk_frozen HV.out 3
    have c0 : _ = some (Value.int .i64 gen) := (blk_cell HT.out.pair 0).trans rfl
    have c1 : _ = some (Value.int .i64 next) := (blk_cell HT.out.pair 1).trans rfl
    have c2 : _ = some (Value.int .u64 upto) := (blk_cell HT.out.pair 2).trans rfl
    have c3 : _ = some u := (blk_cell HT.out.pair 3).trans rfl
    have HV : Aside0 ((w8.setCell ⟨nb, 3, none⟩ (.int .i64 d3)).heap[nb]? = some (.cells #[.int .i64 a, .int .u64 (last + b), .int .u64 (last + b + c), .int .i64 d3, .int .i64 0, .int .i64 0, .int .u32 0, .int .u32 0] 36 (0, 0))) := ⟨(blk_set HV.out 3 (.int .i64 d3)).trans rfl⟩
    have HT := Aside0.mk (HT.out.far hnb 3 (.int .i64 d3))
    go_wp2_with fail
    clear y0 y1 y2 y3 y4 y5 y6 y7 g3
    clear c0 c1 c2 c3
    rcases hr_d4 : nm s (q_d3) 99999999 with _ | ⟨d4, q_d4⟩
    · have HR := Aside0.mk hr_d4
      have hD := HD.out
      rw [hr_d4, Option.bind_none] at hD
      have HD := Aside0.mk hD
      clear hD hr_d4
      refine (num_gone rb s (q_d3) _ HT.out.rdr HS.out _ HR.out).mono ?_
      rintro e wg ⟨he, hd⟩
      unfold gives at he
      subst he
      have HL := Aside0.mk (Left.gone (s := s) (HT.out.drawn hd).two HD.out)
      clear hd
      go_wp2
      exact ⟨rfl, HL.out⟩
    obtain ⟨d4_0, d4_1, d4_2, _⟩ := nm_drop hr_d4
    have HR := Aside0.mk hr_d4
    have hD := HD.out
    rw [hr_d4, Option.bind_some] at hD
    simp only at hD
    have HD := Aside0.mk hD
    clear hD hr_d4
    refine (num_ok rb s (q_d3) _ HT.out.rdr HS.out _ _ _ HR.out).mono ?_
    rintro e w9 ⟨rfl, ht, hg⟩
    have HT := Aside0.mk (HT.out.reads ht hg)
    clear hg HR
    have HV := Aside0.mk (ht.blk HV.out hnr)
    clear ht
    have y0 : _ = some (Value.int .i64 a) := (blk_cell HV.out 0).trans rfl
    have y1 : _ = some (Value.int .u64 (last + b)) := (blk_cell HV.out 1).trans rfl
    have y2 : _ = some (Value.int .u64 (last + b + c)) := (blk_cell HV.out 2).trans rfl
    have y3 : _ = some (Value.int .i64 d3) := (blk_cell HV.out 3).trans rfl
    have y4 : _ = some (Value.int .i64 0) := (blk_cell HV.out 4).trans rfl
    have y5 : _ = some (Value.int .i64 0) := (blk_cell HV.out 5).trans rfl
    have y6 : _ = some (Value.int .u32 0) := (blk_cell HV.out 6).trans rfl
    have y7 : _ = some (Value.int .u32 0) := (blk_cell HV.out 7).trans rfl
    have g4 := blk_frozen HV.out 4
    have c0 : _ = some (Value.int .i64 gen) := (blk_cell HT.out.pair 0).trans rfl
    have c1 : _ = some (Value.int .i64 next) := (blk_cell HT.out.pair 1).trans rfl
    have c2 : _ = some (Value.int .u64 upto) := (blk_cell HT.out.pair 2).trans rfl
    have c3 : _ = some u := (blk_cell HT.out.pair 3).trans rfl
    have HV : Aside0 ((w9.setCell ⟨nb, 4, none⟩ (.int .i64 d4)).heap[nb]? = some (.cells #[.int .i64 a, .int .u64 (last + b), .int .u64 (last + b + c), .int .i64 d3, .int .i64 d4, .int .i64 0, .int .u32 0, .int .u32 0] 36 (0, 0))) := ⟨(blk_set HV.out 4 (.int .i64 d4)).trans rfl⟩
    have HT := Aside0.mk (HT.out.far hnb 4 (.int .i64 d4))
    go_wp2_with fail
    clear y0 y1 y2 y3 y4 y5 y6 y7 g4
    clear c0 c1 c2 c3
    rcases hr_d5 : nm s (q_d4) 65536 with _ | ⟨d5, q_d5⟩
    · have HR := Aside0.mk hr_d5
      have hD := HD.out
      rw [hr_d5, Option.bind_none] at hD
      have HD := Aside0.mk hD
      clear hD hr_d5
      refine (num_gone rb s (q_d4) _ HT.out.rdr HS.out _ HR.out).mono ?_
      rintro e wg ⟨he, hd⟩
      unfold gives at he
      subst he
      have HL := Aside0.mk (Left.gone (s := s) (HT.out.drawn hd).two HD.out)
      clear hd
      go_wp2
      exact ⟨rfl, HL.out⟩
    obtain ⟨d5_0, d5_1, d5_2, _⟩ := nm_drop hr_d5
    have HR := Aside0.mk hr_d5
    have hD := HD.out
    rw [hr_d5, Option.bind_some] at hD
    simp only at hD
    have HD := Aside0.mk hD
    clear hD hr_d5
    refine (num_ok rb s (q_d4) _ HT.out.rdr HS.out _ _ _ HR.out).mono ?_
    rintro e w10 ⟨rfl, ht, hg⟩
    have HT := Aside0.mk (HT.out.reads ht hg)
    clear hg HR
    have HV := Aside0.mk (ht.blk HV.out hnr)
    clear ht
    have y0 : _ = some (Value.int .i64 a) := (blk_cell HV.out 0).trans rfl
    have y1 : _ = some (Value.int .u64 (last + b)) := (blk_cell HV.out 1).trans rfl
    have y2 : _ = some (Value.int .u64 (last + b + c)) := (blk_cell HV.out 2).trans rfl
    have y3 : _ = some (Value.int .i64 d3) := (blk_cell HV.out 3).trans rfl
    have y4 : _ = some (Value.int .i64 d4) := (blk_cell HV.out 4).trans rfl
    have y5 : _ = some (Value.int .i64 0) := (blk_cell HV.out 5).trans rfl
    have y6 : _ = some (Value.int .u32 0) := (blk_cell HV.out 6).trans rfl
    have y7 : _ = some (Value.int .u32 0) := (blk_cell HV.out 7).trans rfl
    have g5 := blk_frozen HV.out 5
    have c0 : _ = some (Value.int .i64 gen) := (blk_cell HT.out.pair 0).trans rfl
    have c1 : _ = some (Value.int .i64 next) := (blk_cell HT.out.pair 1).trans rfl
    have c2 : _ = some (Value.int .u64 upto) := (blk_cell HT.out.pair 2).trans rfl
    have c3 : _ = some u := (blk_cell HT.out.pair 3).trans rfl
    have HV : Aside0 ((w10.setCell ⟨nb, 5, none⟩ (.int .i64 d5)).heap[nb]? = some (.cells #[.int .i64 a, .int .u64 (last + b), .int .u64 (last + b + c), .int .i64 d3, .int .i64 d4, .int .i64 d5, .int .u32 0, .int .u32 0] 36 (0, 0))) := ⟨(blk_set HV.out 5 (.int .i64 d5)).trans rfl⟩
    have HT := Aside0.mk (HT.out.far hnb 5 (.int .i64 d5))
    go_wp2_with fail
    clear y0 y1 y2 y3 y4 y5 y6 y7 g5
    clear c0 c1 c2 c3
    rcases hr_d6 : sm s (q_d5) with _ | ⟨d6, q_d6⟩
    · have HR := Aside0.mk hr_d6
      have hD := HD.out
      rw [hr_d6, Option.bind_none] at hD
      have HD := Aside0.mk hD
      clear hD hr_d6
      refine (smm_gone rb s (q_d5) _ HT.out.rdr HS.out HR.out).mono ?_
      rintro e wg ⟨he, hd⟩
      unfold gives at he
      subst he
      have HL := Aside0.mk (Left.gone (s := s) (HT.out.drawn hd).two HD.out)
      clear hd
      go_wp2
      exact ⟨rfl, HL.out⟩
    obtain ⟨d6_0, d6_1, _⟩ := sm_drop hr_d6
    have HR := Aside0.mk hr_d6
    have hD := HD.out
    rw [hr_d6, Option.bind_some] at hD
    simp only at hD
    have HD := Aside0.mk hD
    clear hD hr_d6
    refine (smm_ok rb s (q_d5) _ HT.out.rdr HS.out _ _ HR.out).mono ?_
    rintro e w11 ⟨rfl, ht, hg⟩
    have HT := Aside0.mk (HT.out.reads ht hg)
    clear hg HR
    have HV := Aside0.mk (ht.blk HV.out hnr)
    clear ht
    have y0 : _ = some (Value.int .i64 a) := (blk_cell HV.out 0).trans rfl
    have y1 : _ = some (Value.int .u64 (last + b)) := (blk_cell HV.out 1).trans rfl
    have y2 : _ = some (Value.int .u64 (last + b + c)) := (blk_cell HV.out 2).trans rfl
    have y3 : _ = some (Value.int .i64 d3) := (blk_cell HV.out 3).trans rfl
    have y4 : _ = some (Value.int .i64 d4) := (blk_cell HV.out 4).trans rfl
    have y5 : _ = some (Value.int .i64 d5) := (blk_cell HV.out 5).trans rfl
    have y6 : _ = some (Value.int .u32 0) := (blk_cell HV.out 6).trans rfl
    have y7 : _ = some (Value.int .u32 0) := (blk_cell HV.out 7).trans rfl
    have g6 := blk_frozen HV.out 6
    have c0 : _ = some (Value.int .i64 gen) := (blk_cell HT.out.pair 0).trans rfl
    have c1 : _ = some (Value.int .i64 next) := (blk_cell HT.out.pair 1).trans rfl
    have c2 : _ = some (Value.int .u64 upto) := (blk_cell HT.out.pair 2).trans rfl
    have c3 : _ = some u := (blk_cell HT.out.pair 3).trans rfl
    have HV : Aside0 ((w11.setCell ⟨nb, 6, none⟩ (.int .u32 d6)).heap[nb]? = some (.cells #[.int .i64 a, .int .u64 (last + b), .int .u64 (last + b + c), .int .i64 d3, .int .i64 d4, .int .i64 d5, .int .u32 d6, .int .u32 0] 36 (0, 0))) := ⟨(blk_set HV.out 6 (.int .u32 d6)).trans rfl⟩
    have HT := Aside0.mk (HT.out.far hnb 6 (.int .u32 d6))
    go_wp2_with fail
    clear y0 y1 y2 y3 y4 y5 y6 y7 g6
    clear c0 c1 c2 c3
    rcases hr_d7 : sm s (q_d6) with _ | ⟨d7, q_d7⟩
    · have HR := Aside0.mk hr_d7
      have hD := HD.out
      rw [hr_d7, Option.bind_none] at hD
      have HD := Aside0.mk hD
      clear hD hr_d7
      refine (smm_gone rb s (q_d6) _ HT.out.rdr HS.out HR.out).mono ?_
      rintro e wg ⟨he, hd⟩
      unfold gives at he
      subst he
      have HL := Aside0.mk (Left.gone (s := s) (HT.out.drawn hd).two HD.out)
      clear hd
      go_wp2
      exact ⟨rfl, HL.out⟩
    obtain ⟨d7_0, d7_1, _⟩ := sm_drop hr_d7
    have HR := Aside0.mk hr_d7
    have hD := HD.out
    rw [hr_d7, Option.bind_some] at hD
    simp only at hD
    have HD := Aside0.mk hD
    clear hD hr_d7
    refine (smm_ok rb s (q_d6) _ HT.out.rdr HS.out _ _ HR.out).mono ?_
    rintro e w12 ⟨rfl, ht, hg⟩
    have HT := Aside0.mk (HT.out.reads ht hg)
    clear hg HR
    have HV := Aside0.mk (ht.blk HV.out hnr)
    clear ht
    have y0 : _ = some (Value.int .i64 a) := (blk_cell HV.out 0).trans rfl
    have y1 : _ = some (Value.int .u64 (last + b)) := (blk_cell HV.out 1).trans rfl
    have y2 : _ = some (Value.int .u64 (last + b + c)) := (blk_cell HV.out 2).trans rfl
    have y3 : _ = some (Value.int .i64 d3) := (blk_cell HV.out 3).trans rfl
    have y4 : _ = some (Value.int .i64 d4) := (blk_cell HV.out 4).trans rfl
    have y5 : _ = some (Value.int .i64 d5) := (blk_cell HV.out 5).trans rfl
    have y6 : _ = some (Value.int .u32 d6) := (blk_cell HV.out 6).trans rfl
    have y7 : _ = some (Value.int .u32 0) := (blk_cell HV.out 7).trans rfl
    have g7 := blk_frozen HV.out 7
    have c0 : _ = some (Value.int .i64 gen) := (blk_cell HT.out.pair 0).trans rfl
    have c1 : _ = some (Value.int .i64 next) := (blk_cell HT.out.pair 1).trans rfl
    have c2 : _ = some (Value.int .u64 upto) := (blk_cell HT.out.pair 2).trans rfl
    have c3 : _ = some u := (blk_cell HT.out.pair 3).trans rfl
    have HV : Aside0 ((w12.setCell ⟨nb, 7, none⟩ (.int .u32 d7)).heap[nb]? = some (.cells #[.int .i64 a, .int .u64 (last + b), .int .u64 (last + b + c), .int .i64 d3, .int .i64 d4, .int .i64 d5, .int .u32 d6, .int .u32 d7] 36 (0, 0))) := ⟨(blk_set HV.out 7 (.int .u32 d7)).trans rfl⟩
    have HT := Aside0.mk (HT.out.far hnb 7 (.int .u32 d7))
    have HW : Aside0 (∃ W, W = w12.setCell ⟨nb, 7, none⟩ (.int .u32 d7)) := ⟨_, rfl⟩
    clear HW
    go_upto_region 15 with (fail)
    clear y0 y1 y2 y3 y4 y5 y6 y7 g7
    clear c0 c1 c2 c3
    have y0 : _ = some (Value.int .i64 a) := (blk_cell HV.out 0).trans rfl
    have y1 : _ = some (Value.int .u64 (last + b)) := (blk_cell HV.out 1).trans rfl
    have y2 : _ = some (Value.int .u64 (last + b + c)) := (blk_cell HV.out 2).trans rfl
    have y3 : _ = some (Value.int .i64 d3) := (blk_cell HV.out 3).trans rfl
    have y4 : _ = some (Value.int .i64 d4) := (blk_cell HV.out 4).trans rfl
    have y5 : _ = some (Value.int .i64 d5) := (blk_cell HV.out 5).trans rfl
    have y6 : _ = some (Value.int .u32 d6) := (blk_cell HV.out 6).trans rfl
    have y7 : _ = some (Value.int .u32 d7) := (blk_cell HV.out 7).trans rfl
    have c0 : _ = some (Value.int .i64 gen) := (blk_cell HT.out.pair 0).trans rfl
    have c1 : _ = some (Value.int .i64 next) := (blk_cell HT.out.pair 1).trans rfl
    have c2 : _ = some (Value.int .u64 upto) := (blk_cell HT.out.pair 2).trans rfl
    have c3 : _ = some u := (blk_cell HT.out.pair 3).trans rfl
    have f3 := blk_frozen HT.out.pair 3
    have HTo := HT
    go_wp2_with ((with_reducible refine gate_builtin (b := .append) (xs := #[.tmp 64, .tmp 66]) rfl ?_); go_loud (at_builtin; refine Kd.R_append k36 (w0 := w12.setCell ⟨nb, 7, none⟩ (.int .u32 d7)) w.heap.size rfl (.tmp 64) (.tmp 66) 23 36 (.agg #[.int .i64 0, .int .u64 0, .int .u64 0, .int .i64 0, .int .i64 0, .int .i64 0, .int .u32 0, .int .u32 0]) 56 rfl Tryd.underlying23 info36 rfl (by decide) (by omega) u l (⟨a, last + b, last + b + c, d3, d4, d5, d6, d7⟩ : SN) [.int .i64 a, .int .u64 (last + b), .int .u64 (last + b + c), .int .i64 d3, .int .i64 d4, .int .i64 d5, .int .u32 d6, .int .u32 d7] (fun k => k ≠ nb) (fun _ => False) rfl (by first | (go_simp; done) | (go_simp; rfl)) ?aP (fun _ hk => hk.elim) ?aF ?aO ?aB ?aS ?aL ?_; (case aP => exact k36_mkM _ _ _ (⟨a, last + b, last + b + c, d3, d4, d5, d6, d7⟩ : SN)); (case aF => exact (fun k hk => Nat.ne_of_gt (Nat.lt_of_lt_of_le (blk_lt HV.out) hk))); (case aO => exact HT.out.own); (case aB => exact Below.refl _ _); (case aS => exact HT.out.two.size); (case aL => omega); clear c0 c1 c2 c3 f3 y0 y1 y2 y3 y4 y5 y6 y7; intro u' w99 ho hb hg hat; obtain ⟨A', c', rfl⟩ := Kd.R_slice ho; have HT := Aside0.mk (HT.out.more hb hg ho 3); have c3 : _ = some u := (blk_cell ((hb.block _ (blk_lt HT.out.elp.choose_spec)).trans HTo.out.pair) 3).trans rfl; have f3 := blk_frozen ((hb.block _ (blk_lt HT.out.elp.choose_spec)).trans HTo.out.pair) 3; clear ho hb hg hat))
    have hlen : (l ++ [(⟨a, last + b, last + b + c, d3, d4, d5, d6, d7⟩ : SN)]).length = l.length + 1 := by rw [List.length_append, List.length_singleton]
    rw [hlen] at HT
    clear hlen
    go_roundw
    case rel => exact ⟨d, q_d7, last + b + c, .slice A' (l.length + 1) c', l ++ [(⟨a, last + b, last + b + c, d3, d4, d5, d6, d7⟩ : SN)], by go_num, rfl, by omega, by omega, by rw [List.length_append, List.length_singleton]; omega, ⟨HT.out.free⟩, HD, ⟨fun y hy => by rcases List.mem_append.1 hy with h | h; exact HRg.out y h; rw [List.mem_singleton.1 h]; unfold Lit.wf; simp only [Bool.and_eq_true, decide_eq_true_eq]; simp only [IntKind.min, IntKind.max, IntKind.bits, IntKind.signed]; omega⟩⟩
    case measure => simp [intOf]
end Go.Proofs.YtejjidggnnhgjaaDoor.HImCm
/- DecodeManifest of layer 12, by the program. -/
set_option linter.unusedVariables false
set_option linter.unusedSimpArgs false
namespace Go.Proofs.YtejjidggnnhgjaaDoor.HImDm
open Go.RowKit Go.Proofs.YtejjidggnnhgjaaDoor.PImg Go.Proofs.YtejjidggnnhgjaaDoor.HBase Go.Proofs.YtejjidggnnhgjaaDoor.HBlob Go.Proofs.YtejjidggnnhgjaaDoor.HSum Go.Proofs.YtejjidggnnhgjaaDoor.HCk Go.Proofs.YtejjidggnnhgjaaDoor.HImgW Go.Proofs.YtejjidggnnhgjaaDoor.HImgR Go.Proofs.YtejjidggnnhgjaaDoor.HImgO Go.Proofs.YtejjidggnnhgjaaDoor.HImP Go.Proofs.YtejjidggnnhgjaaDoor.HImD Go.Proofs.YtejjidggnnhgjaaDoor.HImE Go.Proofs.YtejjidggnnhgjaaDoor.HImR2 Go.Proofs.YtejjidggnnhgjaaDoor.HImCm Go.Proofs.YtejjidggnnhgjaaDoorW.PrintWords Go.Proofs.YtejjidggnnhgjaaDoorW.PrintLast Go.Proofs.YtejjidggnnhgjaaDoorW.PrintMore Go.Proofs.YtejjidggnnhgjaaDoor.HCore
/-- What a file is read as, and the error. -/
def res (b : ByteArray) : Option (Int × Int × Int × List SN) := if opn b ltN = 0 then (dcN (ins b)).bind fun x => if x.2 = ((ins b).size : Int) then some x.1 else none else none
def val (b : ByteArray) : Int × Int × Int × List SN := (res b).getD (0, 0, 0, [])
def code (b : ByteArray) : Int := if opn b ltN = 0 then (if (res b).isSome then 0 else 125) else opn b ltN
theorem out_val {b : ByteArray} (h : ¬ opn b ltN = 0) : val b = (0, 0, 0, []) ∧ code b = opn b ltN := by unfold val code res; rw [if_neg h, if_neg h]; exact ⟨rfl, rfl⟩
theorem none_val {b : ByteArray} (h : opn b ltN = 0) (hd : dcN (ins b) = none) : val b = (0, 0, 0, []) ∧ code b = 125 := by unfold val code res; rw [if_pos h, if_pos h, hd]; exact ⟨rfl, rfl⟩
theorem short_val {b : ByteArray} {x : (Int × Int × Int × List SN) × Int} (h : opn b ltN = 0) (hd : dcN (ins b) = some x) (hx : ¬ x.2 = ((ins b).size : Int)) : val b = (0, 0, 0, []) ∧ code b = 125 := by unfold val code res; rw [if_pos h, if_pos h, hd, Option.bind_some, if_neg hx]; exact ⟨rfl, rfl⟩
theorem some_val {b : ByteArray} {x : (Int × Int × Int × List SN) × Int} (h : opn b ltN = 0) (hd : dcN (ins b) = some x) (hx : x.2 = ((ins b).size : Int)) : val b = x.1 ∧ code b = 0 := by unfold val code res; rw [if_pos h, if_pos h, hd, Option.bind_some, if_pos hx]; exact ⟨rfl, rfl⟩
theorem ins_le (b : ByteArray) (hb : b.size ≤ 140737488355328) : (ins b).size ≤ 4611686018427387904 := by
  unfold ins
  rw [← size_list, extract_list, extract_list, List.length_take, List.length_drop, List.length_take, List.drop_zero, size_list]
  omega
/-- What stands around the closure. -/
def Qc (w2 : World) (pb : Nat) (b : ByteArray) (W1 : World) (rb : Nat) (e0 : Ending) (w1 : World) : Prop :=
  Below w2.heap.size w2 W1 ∧ w2.heap.size < rb ∧ W1.heap[w2.heap.size]? = some (.cells #[.int .i64 0] 27 (0, 0)) ∧ HImCm.Left W1 pb rb (ins b) (dcN (ins b)) e0 w1
theorem left_or {w w' : World} {pb rb : Nat} {s : ByteArray} {D : Option ((Int × Int × Int × List SN) × Int)} {e : Ending} (h : HImCm.Left w pb rb s D e w') : e = gives ∨ (e = .returned (.tuple #[]) ∧ ∃ q, w'.heap[rb]? = some (Rd s q)) := by
  obtain ⟨_, h⟩ := h
  cases D with
  | none => exact Or.inl h
  | some r => exact Or.inr ⟨h.1, _, h.2.1⟩
set_option maxRecDepth 100000 in
set_option maxHeartbeats 8000000 in
theorem dec_any (b : ByteArray) (w : World) (hb : b.size ≤ 140737488355328) (hT : Tab w) :
    Calls Tryd.prog 12 #[.string b] w fun e w' => ∃ u, e = .returned (.tuple #[.agg (cells (val b) u), .int .i64 (code b)]) ∧ Kd.R k36 36 w' w.heap.size (fun _ => True) u (val b).2.2.2 ∧ Below w.heap.size w w' := by
  obtain ⟨w2, e2⟩ : ∃ w2, w2 = (w.alloc (.cells #[.int .i64 0, .int .i64 0, .int .u64 0, .slice none 0 0] 25)).alloc (.cells #[.int .i64 0, .int .i64 0, .int .u64 0, .slice none 0 0] 25) := ⟨_, rfl⟩
  have z2 : w2.heap.size = w.heap.size + 2 := by rw [e2]; simp
  have b0 : w2.heap[w.heap.size]? = some (.cells #[.int .i64 0, .int .i64 0, .int .u64 0, .slice none 0 0] 25 (0, 0)) := by rw [e2]; exact (heap_alloc_old _ _ (by simp)).trans (heap_alloc_new _ _)
  have b1 : w2.heap[w.heap.size + 1]? = some (.cells #[.int .i64 0, .int .i64 0, .int .u64 0, .slice none 0 0] 25 (0, 0)) := by rw [e2]; simpa using heap_alloc_new (w.alloc (.cells #[.int .i64 0, .int .i64 0, .int .u64 0, .slice none 0 0] 25)) (.cells #[.int .i64 0, .int .i64 0, .int .u64 0, .slice none 0 0] 25)
  have hb2 : Below w.heap.size w w2 := by rw [e2]; exact below_alloc (below_alloc (Below.refl _ _) _) _
  have HB := Aside0.mk hb2
  have HT := Aside0.mk (hT.below hb2)
  have E2 := Aside0.mk e2
  have HZ := Aside0.mk z2
  have hmf : ∀ (fn : Fn) (first cap : Array Value) (w : World), (Instr.makeFunc fn first cap).run Tryd.prog w = .ok (.func fn first cap) w := fun _ _ _ _ => rfl
  by_cases ho : opn b ltN = 0
  · have HI := Aside0.mk (man_in b ltN #[.pointer (some ⟨w.heap.size + 1, 0, none⟩)] w2 hb HT.out ho (Qc w2 (w.heap.size + 1) b)
      (fun W1 rb h1 h2 h3 h4 => (inner W1 (w.heap.size + 1) rb (ins b) (ins_le b hb) ((h1.block _ (by omega)).trans b1) h3 (by omega)).mono (fun e w' hl => ⟨h1, h2, h4, hl⟩))
      (fun W1 rb e0 w1 h => ⟨(h.2.2.2.1.block _ (blk_lt h.2.2.1) (by omega) (by have := h.2.1; omega)).trans h.2.2.1, left_or h.2.2.2⟩))
    have H0 := Aside0.mk b0
    have HO0 := Aside0.mk ho
    clear b0 b1 z2 e2 hb2 hT ho
    go_enter Tryd.func12, Tryd.ntmps12
    go_wp2_with fail
    rw [← E2.out]
    refine HI.out.mono ?_
    rintro e w4 ⟨c, rfl, W1, rb, e0, w1, ⟨h1, h2, h3, hL⟩, _, hTn, hor⟩
    have hz := HZ.out
    have hz1 := h1.size
    have hz2 := hL.1.size
    have r1 : w4.heap[w.heap.size]? = some (.cells #[.int .i64 0, .int .i64 0, .int .u64 0, .slice none 0 0] 25 (0, 0)) := hTn.blk ((hL.1.block _ (by omega) (by omega) (by omega)).trans ((h1.block _ (by omega)).trans H0.out)) (by omega)
    have hB4 : Below w.heap.size w w4 := (HB.out.trans (h1.mono (by omega))).trans ⟨hTn.os.trans hL.1.os, hTn.tape.trans hL.1.tape, hTn.output.trans hL.1.output, Nat.le_trans hL.1.size hTn.size, fun k hk => (hTn.block k (by omega) (by omega)).trans (hL.1.block k (by omega) (by omega) (by omega))⟩
    have HB := Aside0.mk hB4
    have HR1 := Aside0.mk r1
    clear hB4 r1
    have hne : (Ending.returned (.tuple #[])) ≠ gives := fun h => by unfold gives at h; cases h
    cases hD : dcN (ins b) with
    | none =>
      rw [hD] at hL
      have hc : c = 125 := by rcases hor with ⟨_, h⟩ | ⟨h, _⟩; exact h; exact absurd (h.symm.trans hL.2) hne
      subst hc
      have HV := Aside0.mk (none_val HO0.out hD)
      clear hD hL hTn hor hz hz1 hz2 h1 h2 h3 hne
      have d0 : _ = some (Value.int .i64 0) := (blk_cell HR1.out 0).trans rfl
      have d1 : _ = some (Value.int .i64 0) := (blk_cell HR1.out 1).trans rfl
      have d2 : _ = some (Value.int .u64 0) := (blk_cell HR1.out 2).trans rfl
      have d3 : _ = some (Value.slice none 0 0) := (blk_cell HR1.out 3).trans rfl
      have f0 := blk_frozen HR1.out 0
      have f1 := blk_frozen HR1.out 1
      have f2 := blk_frozen HR1.out 2
      have f3 := blk_frozen HR1.out 3
      go_wp2_with fail
      refine bodyPost_ret (v := .tuple #[.agg #[.int .i64 0, .int .i64 0, .int .u64 0, .slice none 0 0], .int .i64 125]) (results_ct (fn := Tryd.f12) rfl _ _ w.heap.size 25 #[.int .i64 0, .int .i64 0, .int .u64 0, .slice none 0 0] (0, 0) _ rfl (by exact (blk_set ((blk_set ((blk_set ((blk_set HR1.out 0 (.int .i64 0)).trans rfl) 1 (.int .i64 0)).trans rfl) 2 (.int .u64 0)).trans rfl) 3 (.slice none 0 0)).trans rfl) Tryd.underlying25 rfl (by kernel_rfl)) rfl ?_
      refine ⟨_, by rw [HV.out.1, HV.out.2]; rfl, ?_, ((((HB.out.setCell (p := ⟨w.heap.size, 0, none⟩) (Nat.le_refl _) _).setCell (p := ⟨w.heap.size, 1, none⟩) (Nat.le_refl _) _).setCell (p := ⟨w.heap.size, 2, none⟩) (Nat.le_refl _) _).setCell (p := ⟨w.heap.size, 3, none⟩) (Nat.le_refl _) _)⟩
      rw [HV.out.1]
      exact Kd.R_nil _ _ _ _ _
    | some x =>
      obtain ⟨r, qq⟩ := x
      rw [hD] at hL
      obtain ⟨hT2, he0, hrd, u, hu, hown⟩ := hL
      subst he0
      simp only at hrd hu hown
      have hc : c = if qq = ((ins b).size : Int) then 0 else 125 := by
        rcases hor with ⟨h, _⟩ | ⟨_, q', hq, hc⟩
        · exact absurd h hne
        · rw [hrd] at hq
          have e := Option.some.inj hq
          injection e with e
          have e2 := congrArg (fun a => a[1]?) e
          simp at e2
          rw [hc, e2]
      by_cases hq : qq = ((ins b).size : Int)
      · rw [if_pos hq] at hc
        subst hc
        have HV := Aside0.mk (some_val HO0.out hD hq)
        have r2 : w4.heap[w.heap.size + 1]? = some (.cells (cells r u) 25 (0, 0)) := hTn.blk hu (by omega)
        have ho : Kd.R k36 36 w4 w.heap.size (fun _ => True) u r.2.2.2 := Kd.R_lower (Kd.R_mono (Kd.R_keep (g := w2.heap.size) (Kd.R_newB hown h3) ⟨hTn.size, fun i hi hg _ => hTn.block i hi hg⟩ (fun _ hk => hk.2)) (fun _ _ => trivial)) (by omega)
        obtain ⟨A, cc, rfl⟩ := Kd.R_slice ho
        have HO := Aside0.mk ho
        have HR2 := Aside0.mk r2
        clear hD hT2 hrd hu hown hTn hor hz hz1 hz2 h1 h2 h3 hne hq ho r2
        have c0 : _ = some (Value.int .i64 r.1) := (blk_cell HR2.out 0).trans rfl
        have c1 : _ = some (Value.int .i64 r.2.1) := (blk_cell HR2.out 1).trans rfl
        have c2 : _ = some (Value.int .u64 r.2.2.1) := (blk_cell HR2.out 2).trans rfl
        have c3 : _ = some (Value.slice A r.2.2.2.length cc) := (blk_cell HR2.out 3).trans rfl
        have d0 : _ = some (Value.int .i64 0) := (blk_cell HR1.out 0).trans rfl
        have d1 : _ = some (Value.int .i64 0) := (blk_cell HR1.out 1).trans rfl
        have d2 : _ = some (Value.int .u64 0) := (blk_cell HR1.out 2).trans rfl
        have d3 : _ = some (Value.slice none 0 0) := (blk_cell HR1.out 3).trans rfl
        have f0 := blk_frozen HR1.out 0
        have f1 := blk_frozen HR1.out 1
        have f2 := blk_frozen HR1.out 2
        have f3 := blk_frozen HR1.out 3
        go_wp2_with fail
        refine bodyPost_ret (v := .tuple #[.agg #[.int .i64 r.1, .int .i64 r.2.1, .int .u64 r.2.2.1, .slice A r.2.2.2.length cc], .int .i64 0]) (results_ct (fn := Tryd.f12) rfl _ _ w.heap.size 25 #[.int .i64 r.1, .int .i64 r.2.1, .int .u64 r.2.2.1, .slice A r.2.2.2.length cc] (0, 0) _ rfl (by exact (blk_set ((blk_set ((blk_set ((blk_set HR1.out 0 (.int .i64 r.1)).trans rfl) 1 (.int .i64 r.2.1)).trans rfl) 2 (.int .u64 r.2.2.1)).trans rfl) 3 (.slice A r.2.2.2.length cc)).trans rfl) Tryd.underlying25 rfl (by kernel_rfl)) rfl ?_
        refine ⟨_, by rw [HV.out.1, HV.out.2]; rfl, ?_, ((((HB.out.setCell (p := ⟨w.heap.size, 0, none⟩) (Nat.le_refl _) _).setCell (p := ⟨w.heap.size, 1, none⟩) (Nat.le_refl _) _).setCell (p := ⟨w.heap.size, 2, none⟩) (Nat.le_refl _) _).setCell (p := ⟨w.heap.size, 3, none⟩) (Nat.le_refl _) _)⟩
        rw [HV.out.1]
        exact Kd.R_mono (Kd.R_far (p := ⟨w.heap.size, 3, none⟩) (Kd.R_far (p := ⟨w.heap.size, 2, none⟩) (Kd.R_far (p := ⟨w.heap.size, 1, none⟩) (Kd.R_far (p := ⟨w.heap.size, 0, none⟩) (Kd.R_types HO.out HR1.out (by decide)) (fun _ hk => hk.2) _) (fun _ hk => hk.2) _) (fun _ hk => hk.2) _) (fun _ hk => hk.2) _) (fun _ _ => trivial)
      · rw [if_neg hq] at hc
        subst hc
        have HV := Aside0.mk (short_val HO0.out hD hq)
        clear hD hT2 hrd hu hown hTn hor hz hz1 hz2 h1 h2 h3 hne hq
        have d0 : _ = some (Value.int .i64 0) := (blk_cell HR1.out 0).trans rfl
        have d1 : _ = some (Value.int .i64 0) := (blk_cell HR1.out 1).trans rfl
        have d2 : _ = some (Value.int .u64 0) := (blk_cell HR1.out 2).trans rfl
        have d3 : _ = some (Value.slice none 0 0) := (blk_cell HR1.out 3).trans rfl
        have f0 := blk_frozen HR1.out 0
        have f1 := blk_frozen HR1.out 1
        have f2 := blk_frozen HR1.out 2
        have f3 := blk_frozen HR1.out 3
        go_wp2_with fail
        refine bodyPost_ret (v := .tuple #[.agg #[.int .i64 0, .int .i64 0, .int .u64 0, .slice none 0 0], .int .i64 125]) (results_ct (fn := Tryd.f12) rfl _ _ w.heap.size 25 #[.int .i64 0, .int .i64 0, .int .u64 0, .slice none 0 0] (0, 0) _ rfl (by exact (blk_set ((blk_set ((blk_set ((blk_set HR1.out 0 (.int .i64 0)).trans rfl) 1 (.int .i64 0)).trans rfl) 2 (.int .u64 0)).trans rfl) 3 (.slice none 0 0)).trans rfl) Tryd.underlying25 rfl (by kernel_rfl)) rfl ?_
        refine ⟨_, by rw [HV.out.1, HV.out.2]; rfl, ?_, ((((HB.out.setCell (p := ⟨w.heap.size, 0, none⟩) (Nat.le_refl _) _).setCell (p := ⟨w.heap.size, 1, none⟩) (Nat.le_refl _) _).setCell (p := ⟨w.heap.size, 2, none⟩) (Nat.le_refl _) _).setCell (p := ⟨w.heap.size, 3, none⟩) (Nat.le_refl _) _)⟩
        rw [HV.out.1]
        exact Kd.R_nil _ _ _ _ _
  · have HI := Aside0.mk (man_out b ltN #[.pointer (some ⟨w.heap.size + 1, 0, none⟩)] w2 hb HT.out ho)
    have HV := Aside0.mk (out_val ho)
    have H0 := Aside0.mk b0
    have HO0 := Aside0.mk ho
    clear b0 b1 z2 e2 hb2 hT ho
    go_enter Tryd.func12, Tryd.ntmps12
    go_wp2_with fail
    rw [← E2.out]
    refine HI.out.mono ?_
    rintro e w4 ⟨rfl, hb4⟩
    have hz := HZ.out
    have HR1 := Aside0.mk ((hb4.block _ (by omega)).trans H0.out)
    have HB := Aside0.mk (HB.out.trans (hb4.mono (by omega)))
    have hk : (opn b ltN == 0) = false := beq_eq_false_iff_ne.2 HO0.out
    generalize opn b ltN = cd at hk HV ⊢
    clear hb4 hz HI HO0
    have d0 : _ = some (Value.int .i64 0) := (blk_cell HR1.out 0).trans rfl
    have d1 : _ = some (Value.int .i64 0) := (blk_cell HR1.out 1).trans rfl
    have d2 : _ = some (Value.int .u64 0) := (blk_cell HR1.out 2).trans rfl
    have d3 : _ = some (Value.slice none 0 0) := (blk_cell HR1.out 3).trans rfl
    have f0 := blk_frozen HR1.out 0
    have f1 := blk_frozen HR1.out 1
    have f2 := blk_frozen HR1.out 2
    have f3 := blk_frozen HR1.out 3
    go_wp2_with fail
    refine bodyPost_ret (v := .tuple #[.agg #[.int .i64 0, .int .i64 0, .int .u64 0, .slice none 0 0], .int .i64 cd]) (results_ct (fn := Tryd.f12) rfl _ _ w.heap.size 25 #[.int .i64 0, .int .i64 0, .int .u64 0, .slice none 0 0] (0, 0) _ rfl (by exact (blk_set ((blk_set ((blk_set ((blk_set HR1.out 0 (.int .i64 0)).trans rfl) 1 (.int .i64 0)).trans rfl) 2 (.int .u64 0)).trans rfl) 3 (.slice none 0 0)).trans rfl) Tryd.underlying25 rfl (by kernel_rfl)) rfl ?_
    refine ⟨_, by rw [HV.out.1, HV.out.2]; rfl, ?_, ((((HB.out.setCell (p := ⟨w.heap.size, 0, none⟩) (Nat.le_refl _) _).setCell (p := ⟨w.heap.size, 1, none⟩) (Nat.le_refl _) _).setCell (p := ⟨w.heap.size, 2, none⟩) (Nat.le_refl _) _).setCell (p := ⟨w.heap.size, 3, none⟩) (Nat.le_refl _) _)⟩
    rw [HV.out.1]
    exact Kd.R_nil _ _ _ _ _
end Go.Proofs.YtejjidggnnhgjaaDoor.HImDm
/- Reading a file of layer 12 loosely, as the document does, step by step: what stands while the records are gathered; and what a loose reading that is laid down again comes to. -/
set_option linter.unusedVariables false
set_option linter.unusedSimpArgs false
namespace Go.Proofs.YtejjidggnnhgjaaDoor.HImS
open Go.RowKit Go.Proofs.YtejjidggnnhgjaaDoor.PImg Go.Proofs.YtejjidggnnhgjaaDoor.HBase Go.Proofs.YtejjidggnnhgjaaDoor.HBlob Go.Proofs.YtejjidggnnhgjaaDoor.HSum Go.Proofs.YtejjidggnnhgjaaDoor.HCk Go.Proofs.YtejjidggnnhgjaaDoor.HImgW Go.Proofs.YtejjidggnnhgjaaDoor.HImgR Go.Proofs.YtejjidggnnhgjaaDoor.HImgO Go.Proofs.YtejjidggnnhgjaaDoor.HImP Go.Proofs.YtejjidggnnhgjaaDoor.HImD Go.Proofs.YtejjidggnnhgjaaDoor.HImE Go.Proofs.YtejjidggnnhgjaaDoor.HImF Go.Proofs.YtejjidggnnhgjaaDoorW.PrintWords Go.Proofs.YtejjidggnnhgjaaDoorW.PrintLast Go.Proofs.YtejjidggnnhgjaaDoorW.PrintMore Go.Proofs.YtejjidggnnhgjaaDoor.HCore
/-- What stands: the result's block (the first), the struct in pb, the cursor in gb; the records' row is not block nb. -/
structure Lo {X : Type} (d : Kd X) (E T : Nat) (Z : Array Value) (w : World) (pb gb nb : Nat) (s : ByteArray) (c : Int × Bool) (cs : Array Value) (u : Value) (l : List X) (wr : World) : Prop where
  below : Below w.heap.size w wr
  res : wr.heap[w.heap.size]? = some (.cells Z T (0, 0))
  pair : wr.heap[pb]? = some (.cells cs T (0, 0))
  cur : Cu w wr gb s c
  own : Kd.R d E wr w.heap.size (fun k => k ≠ nb) u l
  ne : w.heap.size < pb ∧ pb ≠ gb ∧ w.heap.size < gb
section
variable {X : Type} {d : Kd X} {E T : Nat} {Z : Array Value} {w wr wr' : World} {pb gb nb : Nat} {s : ByteArray} {c c' : Int × Bool} {cs : Array Value} {u : Value} {l : List X}
theorem Lo.step (h : Lo d E T Z w pb gb nb s c cs u l wr) (hb : Below wr.heap.size wr wr') : Lo d E T Z w pb gb nb s c cs u l wr' :=
  ⟨below_then h.below h.below.size hb, (hb.block _ (blk_lt h.res)).trans h.res, (hb.block _ (blk_lt h.pair)).trans h.pair, h.cur.below hb, Kd.R_below h.own hb, h.ne⟩
theorem Lo.drew (h : Lo d E T Z w pb gb nb s c cs u l wr) : Lo d E T Z w pb gb nb s c cs u l wr.drew := h.step (below_drew (Below.refl _ _))
theorem Lo.drewN (h : Lo d E T Z w pb gb nb s c cs u l wr) (n : Nat) : Lo d E T Z w pb gb nb s c cs u l (wr.drewN n) := h.step (pw_below_drewN (Below.refl _ _) n)
theorem Lo.reads (ht : ∀ q, q ∈ E :: d.E → q ≠ 93) (h : Lo d E T Z w pb gb nb s c cs u l wr) (hI : Cu w wr' gb s c') (hb : Below w.heap.size w wr') (hk : KeepBut wr wr' gb none) : Lo d E T Z w pb gb nb s c' cs u l wr' :=
  ⟨hb, (hk.2 _ (blk_lt h.res) (by have := h.ne; omega) (by simp)).trans h.res, (hk.2 _ (blk_lt h.pair) h.ne.2.1 (by simp)).trans h.pair, hI, Kd.R_mono (Kd.R_keep (Kd.R_types h.own h.cur.1 ht) hk (fun _ hk => hk.2)) (fun _ hk => hk.1), h.ne⟩
theorem Lo.new (h : Lo d E T Z w pb gb nb s c cs u l wr) (o : Obj) : Lo d E T Z w pb gb wr.heap.size s c cs u l (wr.alloc o) := by
  have h2 := h.step (below_alloc (Below.refl _ _) o)
  exact ⟨h2.below, h2.res, h2.pair, h2.cur, Kd.R_alloc (Kd.R_mono (Kd.R_elderB h.own wr.heap.size (Nat.le_refl _)) (fun _ hk => hk.2)) o, h2.ne⟩
theorem Lo.free (ht : ∀ q, q ∈ E :: d.E → q ≠ 93) (h : Lo d E T Z w pb gb nb s c cs u l wr) : Lo d E T Z w pb gb gb s c cs u l wr :=
  ⟨h.below, h.res, h.pair, h.cur, Kd.R_mono (Kd.R_types h.own h.cur.1 ht) (fun _ hk => hk.2), h.ne⟩
theorem cur_far {p : Addr} (h : Cu w wr gb s c) (hn : gb ≠ p.block) (v : Value) : Cu w (wr.setCell p v) gb s c := ⟨blk_far h.1 hn v, h.2⟩
theorem Lo.put (ht : ∀ q, q ∈ E :: d.E → q ≠ T) (h : Lo d E T Z w pb gb nb s c cs u l wr) (j : Nat) (v : Value) : Lo d E T Z w pb gb nb s c (cs.setIfInBounds j v) u l (wr.setCell ⟨pb, j, none⟩ v) :=
  ⟨h.below.setCell (p := ⟨pb, j, none⟩) (Nat.le_of_lt h.ne.1) v, blk_far h.res (by have := h.ne; show w.heap.size ≠ pb; omega) v, blk_set h.pair j v, cur_far h.cur (Ne.symm h.ne.2.1) v, Kd.R_set h.own h.pair ht j v, h.ne⟩
theorem Lo.far (h : Lo d E T Z w pb gb nb s c cs u l wr) (hn : w.heap.size < nb ∧ nb ≠ pb ∧ nb ≠ gb) (j : Nat) (v : Value) : Lo d E T Z w pb gb nb s c cs u l (wr.setCell ⟨nb, j, none⟩ v) :=
  ⟨h.below.setCell (p := ⟨nb, j, none⟩) (Nat.le_of_lt hn.1) v, blk_far h.res (by show w.heap.size ≠ nb; omega) v, blk_far h.pair (Ne.symm hn.2.1) v, cur_far h.cur (Ne.symm hn.2.2) v, Kd.R_far h.own (fun _ hk => hk) v, h.ne⟩
theorem Lo.more (ht : ∀ q, q ∈ E :: d.E → q ≠ T) (ht2 : ∀ q, q ∈ E :: d.E → q ≠ 93) (h : Lo d E T Z w pb gb nb s c cs u l wr) {u' : Value} {l' : List X} (hb : Below w.heap.size w wr') (hg : wr.grownBy wr' u.ownBlock) (ho : Kd.R d E wr' w.heap.size (fun k => k ≠ nb) u' l') (j : Nat) :
    Lo d E T Z w pb gb nb s c (cs.setIfInBounds j u') u' l' (wr'.setCell ⟨pb, j, none⟩ u') := by
  have hE := ht E (List.mem_cons_self ..)
  have hE2 := ht2 E (List.mem_cons_self ..)
  have h0 : Lo d E T Z w pb gb nb s c cs u' l' wr' :=
    ⟨hb, (hg.block _ (blk_lt h.res) (Kd.R_ne h.own h.res hE)).trans h.res, (hg.block _ (blk_lt h.pair) (Kd.R_ne h.own h.pair hE)).trans h.pair, h.cur.grown hg (Kd.R_ne h.own h.cur.1 hE2), ho, h.ne⟩
  exact h0.put ht j u'
end
end Go.Proofs.YtejjidggnnhgjaaDoor.HImS
/- Lists of layer 12's records, written where they lie and made longer: what stands meanwhile. -/
set_option linter.unusedVariables false
set_option linter.unusedSimpArgs false
namespace Go.Proofs.YtejjidggnnhgjaaDoor.HImL
open Go.RowKit Go.Proofs.YtejjidggnnhgjaaDoor.PImg Go.Proofs.YtejjidggnnhgjaaDoor.HImP Go.Proofs.YtejjidggnnhgjaaDoor.HImD Go.Proofs.YtejjidggnnhgjaaDoorW.PrintWords Go.Proofs.YtejjidggnnhgjaaDoorW.PrintLast Go.Proofs.YtejjidggnnhgjaaDoorW.PrintMore Go.Proofs.YtejjidggnnhgjaaDoor.HCore
/-- A row of one's own, from a world on: nothing else that was there has been touched. -/
structure Rw {X : Type} (d : Kd X) (E : Nat) (w0 : World) (base : Nat) (v0 : Value) (W : World) (v : Value) (l : List X) : Prop where
  bel : Below base w0 W
  own : Kd.R d E W base (fun _ => True) v l
  gr : w0.grownBy W v0.ownBlock
  blk : v.ownBlock = v0.ownBlock ∨ ∃ b, v.ownBlock = some b ∧ w0.heap.size ≤ b
  hb : base ≤ w0.heap.size
section
variable {X : Type} {d : Kd X} {E : Nat} {w0 W W' : World} {base : Nat} {v0 v : Value} {l : List X}
theorem Rw.start (h : Kd.R d E w0 base (fun _ => True) v0 l) (hb : base ≤ w0.heap.size) : Rw d E w0 base v0 w0 v0 l := ⟨Below.refl _ _, h, ⟨rfl, rfl, rfl, Nat.le_refl _, fun _ _ _ => rfl⟩, Or.inl rfl, hb⟩
theorem Rw.below (h : Rw d E w0 base v0 W v l) (hb : Below W.heap.size W W') : Rw d E w0 base v0 W' v l :=
  ⟨below_then h.bel (Nat.le_trans h.hb h.gr.size) hb, Kd.R_below h.own hb, ⟨hb.os.trans h.gr.os, hb.tape.trans h.gr.tape, hb.output.trans h.gr.output, Nat.le_trans h.gr.size hb.size, fun k hk hn => (hb.block k (Nat.lt_of_lt_of_le hk h.gr.size)).trans (h.gr.block k hk hn)⟩, h.blk, h.hb⟩
end
end Go.Proofs.YtejjidggnnhgjaaDoor.HImL
/- backwards, of layer 12's statements: the lists of a pair turned round where they lie. -/
set_option linter.unusedVariables false
set_option linter.unusedSimpArgs false
namespace Go.Proofs.YtejjidggnnhgjaaDoor.HImBk
open Go.RowKit Go.Proofs.YtejjidggnnhgjaaDoor.PImg Go.Proofs.YtejjidggnnhgjaaDoor.HImP Go.Proofs.YtejjidggnnhgjaaDoor.HImD Go.Proofs.YtejjidggnnhgjaaDoor.HImL Go.Proofs.YtejjidggnnhgjaaDoorW.PrintWords Go.Proofs.YtejjidggnnhgjaaDoorW.PrintLast Go.Proofs.YtejjidggnnhgjaaDoorW.PrintMore Go.Proofs.YtejjidggnnhgjaaDoor.HCore
/-- Nothing that was there has been touched but two blocks. -/
structure Two (w W : World) (r1 r2 : Option Nat) : Prop where
  os : W.os = w.os
  tape : W.tape = w.tape
  output : W.output = w.output
  size : w.heap.size ≤ W.heap.size
  block : ∀ k, k < w.heap.size → some k ≠ r1 → some k ≠ r2 → W.heap[k]? = w.heap[k]?
theorem Two.refl (w : World) (r1 r2 : Option Nat) : Two w w r1 r2 := ⟨rfl, rfl, rfl, Nat.le_refl _, fun _ _ _ _ => rfl⟩
theorem Two.below {w W W' : World} {r1 r2 : Option Nat} (h : Two w W r1 r2) (hb : Below W.heap.size W W') : Two w W' r1 r2 :=
  ⟨hb.os.trans h.os, hb.tape.trans h.tape, hb.output.trans h.output, Nat.le_trans h.size hb.size, fun k hk h1 h2 => (hb.block k (Nat.lt_of_lt_of_le hk h.size)).trans (h.block k hk h1 h2)⟩
theorem Two.grown {w W W' : World} {r1 r2 r : Option Nat} (h : Two w W r1 r2) (hg : W.grownBy W' r) (hr : r = r1 ∨ r = r2 ∨ ∃ b, r = some b ∧ w.heap.size ≤ b) : Two w W' r1 r2 := by
  refine ⟨hg.os.trans h.os, hg.tape.trans h.tape, hg.output.trans h.output, Nat.le_trans h.size hg.size, fun k hk h1 h2 => (hg.block k (Nat.lt_of_lt_of_le hk h.size) (fun e => ?_)).trans (h.block k hk h1 h2)⟩
  rcases hr with hr | hr | ⟨b, hr, hle⟩
  · exact h1 (e.trans hr)
  · exact h2 (e.trans hr)
  · rw [hr] at e
    injection e with e
    omega
theorem Two.set {w W : World} {r1 r2 : Option Nat} (h : Two w W r1 r2) {p : Addr} (hp : w.heap.size ≤ p.block) (v : Value) : Two w (W.setCell p v) r1 r2 :=
  ⟨h.os, h.tape, h.output, by simpa [World.setCell] using h.size, fun k hk h1 h2 => (Below.heap_setCell W p v k (by omega)).trans (h.block k hk h1 h2)⟩
/-- The parameter's block and both lists. -/
structure Bw (w : World) (base : Nat) (A1 : Option Addr) (n1 c1 : Nat) (A2 : Option Addr) (n2 c2 : Nat) (cs : Array Value) (l1 : List SD) (l2 : List SE) (W : World) : Prop where
  bel : Below base w W
  own1 : Kd.R k58 58 W base (fun _ => True) (.slice A1 n1 c1) l1
  own2 : Kd.R k60 60 W base (fun _ => True) (.slice A2 n2 c2) l2
  box : W.heap[w.heap.size]? = some (.cells cs 46 (0, 0))
  hb : base ≤ w.heap.size
  bnd : ∀ x ∈ l1, x.f2.size ≤ 140737488351232
  two : Two w W (Value.slice A1 n1 c1).ownBlock (Value.slice A2 n2 c2).ownBlock
section
variable {w : World} {base : Nat} {A1 A2 : Option Addr} {n1 c1 n2 c2 g : Nat} {cs : Array Value} {l1 : List SD} {l2 : List SE} {W : World}
theorem Bw.step (h : Bw w base A1 n1 c1 A2 n2 c2 cs l1 l2 W) {W' : World} (hb : Below W.heap.size W W') : Bw w base A1 n1 c1 A2 n2 c2 cs l1 l2 W' :=
  ⟨below_then h.bel (Nat.le_trans h.hb h.bel.size) hb, Kd.R_below h.own1 hb, Kd.R_below h.own2 hb, (hb.block _ (blk_lt h.box)).trans h.box, h.hb, h.bnd, h.two.below hb⟩
theorem Bw.drew (h : Bw w base A1 n1 c1 A2 n2 c2 cs l1 l2 W) : Bw w base A1 n1 c1 A2 n2 c2 cs l1 l2 W.drew := h.step (below_drew (Below.refl _ _))
end
end Go.Proofs.YtejjidggnnhgjaaDoor.HImBk
/- marked, of layer 12's statements: a pair's lists written full and made longer touch those lists alone. -/
set_option linter.unusedVariables false
set_option linter.unusedSimpArgs false
namespace Go.Proofs.YtejjidggnnhgjaaDoor.HImMk
open Go.RowKit Go.Proofs.YtejjidggnnhgjaaDoor.PImg Go.Proofs.YtejjidggnnhgjaaDoor.HImP Go.Proofs.YtejjidggnnhgjaaDoor.HImD Go.Proofs.YtejjidggnnhgjaaDoor.HImL Go.Proofs.YtejjidggnnhgjaaDoor.HImBk Go.Proofs.YtejjidggnnhgjaaDoorW.PrintWords Go.Proofs.YtejjidggnnhgjaaDoorW.PrintLast Go.Proofs.YtejjidggnnhgjaaDoorW.PrintMore Go.Proofs.YtejjidggnnhgjaaDoor.HCore
/-- The parameter's block and both lists. -/
structure Mw (w : World) (base : Nat) (v1 v2 : Value) (cs : Array Value) (u1 u2 : Value) (l1 : List SD) (l2 : List SE) (W : World) : Prop where
  two : Two w W v1.ownBlock v2.ownBlock
  bel : Below base w W
  own1 : Kd.R k58 58 W base (fun _ => True) u1 l1
  own2 : Kd.R k60 60 W base (fun _ => True) u2 l2
  box : W.heap[w.heap.size]? = some (.cells cs 46 (0, 0))
  hb : base ≤ w.heap.size
  b1 : u1.ownBlock = v1.ownBlock ∨ ∃ b, u1.ownBlock = some b ∧ w.heap.size ≤ b
  b2 : u2.ownBlock = v2.ownBlock ∨ ∃ b, u2.ownBlock = some b ∧ w.heap.size ≤ b
section
variable {w : World} {base : Nat} {v1 v2 u1 u2 u1' u2' : Value} {cs : Array Value} {l1 l1' : List SD} {l2 l2' : List SE} {W W' : World}
theorem Mw.step (h : Mw w base v1 v2 cs u1 u2 l1 l2 W) (hb : Below W.heap.size W W') : Mw w base v1 v2 cs u1 u2 l1 l2 W' :=
  ⟨h.two.below hb, below_then h.bel (Nat.le_trans h.hb h.bel.size) hb, Kd.R_below h.own1 hb, Kd.R_below h.own2 hb, (hb.block _ (blk_lt h.box)).trans h.box, h.hb, h.b1, h.b2⟩
theorem Mw.put (h : Mw w base v1 v2 cs u1 u2 l1 l2 W) (j : Nat) (u : Value) : Mw w base v1 v2 (cs.setIfInBounds j u) u1 u2 l1 l2 (W.setCell ⟨w.heap.size, j, none⟩ u) :=
  ⟨h.two.set (p := ⟨w.heap.size, j, none⟩) (Nat.le_refl _) u, h.bel.setCell (p := ⟨w.heap.size, j, none⟩) h.hb u, Kd.R_set h.own1 h.box (by decide) j u, Kd.R_set h.own2 h.box (by decide) j u, blk_set h.box j u, h.hb, h.b1, h.b2⟩
end
end Go.Proofs.YtejjidggnnhgjaaDoor.HImMk
/- What may be, by the program and by the document: both come to the plain functions. -/
set_option linter.unusedVariables false
set_option linter.unusedSimpArgs false
namespace Go.Proofs.YtejjidggnnhgjaaDoor.HImK
open Go.RowKit Go.Proofs.YtejjidggnnhgjaaDoor.PImg Go.Proofs.YtejjidggnnhgjaaDoor.HImP Go.Proofs.YtejjidggnnhgjaaDoor.HImD Go.Proofs.YtejjidggnnhgjaaDoorW.PrintWords Go.Proofs.YtejjidggnnhgjaaDoorW.PrintLast Go.Proofs.YtejjidggnnhgjaaDoor.HCore
def pv {X : Type} (b : X → X → Bool) (o : Option X) (x : X) : Bool := match o with | none => true | some y => b y x
theorem gd_cons {X : Type} (c : X → Bool) (b : X → X → Bool) (o : Option X) (x : X) (xs : List X) : HImD.gd c b o (x :: xs) = ((c x && pv b o x) && HImD.gd c b (some x) xs) := by
  cases o <;> simp [HImD.gd, pv]
theorem key_f (s : ByteArray) : image_goodKey.f s = some (decide (1 ≤ s.size ∧ s.size ≤ 160)) := by
  unfold image_goodKey.f
  by_cases h : s.toList = []
  · have hz : s.size = 0 := by rw [← size_list, ← toList_data, h]; rfl
    rw [if_pos h, hz]; rfl
  · have hz : s.size ≠ 0 := fun e => h (by rw [toList_data]; apply List.length_eq_zero_iff.1; rw [size_list, e])
    rw [if_neg h, decide_eq_decide.2 (show ((s.size : Int) ≤ 160) ↔ (1 ≤ s.size ∧ s.size ≤ 160) by omega)]
theorem bfr_f (a : Int) (k : ByteArray) (b : Int) (l : ByteArray) : image_place_before.f a k b l = some (bfr a k b l) := by
  unfold image_place_before.f bfr
  rw [toList_data, toList_data]
  by_cases h : a < b
  · rw [if_pos h, decide_eq_true h, Bool.true_or]
  · rw [if_neg h, decide_eq_false h, Bool.false_or]
    by_cases e : a = b
    · rw [if_pos e, decide_eq_true e, Bool.true_and]
    · rw [if_neg e, decide_eq_false e, Bool.false_and]
theorem wstep (n : Nat) (h : n < 1152921504606846976) : wrap64 ((n : Int) + 1) = ((n + 1 : Nat) : Int) := by rw [w64 (by omega) (by omega)]; omega
theorem getD_mid {X : Type} (pre : List X) (x z : X) (rest : List X) : (pre ++ x :: rest).getD ((pre.length : Int)).toNat z = x := by
  rw [Int.toNat_natCast, List.getD_eq_getElem?_getD, List.getElem?_append_right (Nat.le_refl _), Nat.sub_self]
  rfl
/-! ### data -/
theorem gD_loop (id lo hi gen : Int) (es : List SE) : ∀ (rest pre : List SD) (k : Nat) (lb : Int) (lk : ByteArray), pre.length + rest.length < 1152921504606846976 → rest.length < k → (∀ y, pre.getLast? = some y → lb = y.f0 ∧ lk = y.f1) →
    image_goodData.l0 k (pre ++ rest) ((pre ++ rest).length : Int) (pre.length : Int) id lo hi (pre ++ rest) gen es lb lk = some (HImD.gd (cD lo hi) bD pre.getLast? rest) := by
  intro rest
  induction rest with
  | nil =>
    intro pre k lb lk hn hk _
    obtain ⟨k, rfl⟩ : ∃ m, k = m + 1 := ⟨k - 1, by simp at hk; omega⟩
    unfold image_goodData.l0
    rw [if_neg (by simp)]
    cases pre.getLast? <;> rfl
  | cons x rest ih =>
    intro pre k lb lk hn hk hl
    obtain ⟨k, rfl⟩ : ∃ m, k = m + 1 := ⟨k - 1, by simp at hk; omega⟩
    have hrd : rd_T58 (pre ++ x :: rest) (pre.length : Int) = x := getD_mid pre x _ rest
    have hi2 := ih (pre ++ [x]) k x.f0 x.f1 (by simp at hn ⊢; omega) (by simp at hk; omega) (fun y hy => by rw [List.getLast?_concat] at hy; cases hy; exact ⟨rfl, rfl⟩)
    have hlen : (pre ++ [x]).length = pre.length + 1 := by simp
    rw [List.append_assoc, List.singleton_append, List.getLast?_concat, hlen] at hi2
    unfold image_goodData.l0
    have hlt : (pre.length : Int) < ((pre ++ x :: rest).length : Int) := by rw [List.length_append, List.length_cons]; omega
    rw [if_pos hlt, if_pos (by omega), if_pos hlt, hrd, gd_cons, key_f, Option.bind_some, wstep _ (by omega)]
    rw [show cD lo hi x = decide (lo < x.f0 ∧ x.f0 ≤ hi ∧ 1 ≤ x.f1.size ∧ x.f1.size ≤ 160 ∧ x.f2.size ≤ 512) from rfl]
    by_cases h1 : x.f0 ≤ lo
    · rw [if_pos h1, decide_eq_false (fun h => by omega)]; rfl
    · rw [if_neg h1]
      by_cases h2 : x.f0 > hi
      · rw [if_pos h2, decide_eq_false (fun h => by omega)]; rfl
      · rw [if_neg h2]
        by_cases h3 : 1 ≤ x.f1.size ∧ x.f1.size ≤ 160
        · rw [decide_eq_true h3, if_pos rfl]
          by_cases h4 : (x.f2.size : Int) > 512
          · rw [if_pos h4, decide_eq_false (fun h => by omega)]; rfl
          · rw [if_neg h4, decide_eq_true (show lo < x.f0 ∧ x.f0 ≤ hi ∧ 1 ≤ x.f1.size ∧ x.f1.size ≤ 160 ∧ x.f2.size ≤ 512 from ⟨by omega, by omega, h3.1, h3.2, by omega⟩), Bool.true_and]
            cases hp : pre.getLast? with
            | none =>
              have : pre = [] := List.getLast?_eq_none_iff.1 hp
              rw [if_neg (by rw [this]; simp), hi2]
              rfl
            | some y =>
              have hne : pre ≠ [] := fun e => by rw [e] at hp; cases hp
              have hpos := List.length_pos_iff.2 hne
              obtain ⟨rfl, rfl⟩ := hl y hp
              rw [if_pos (by omega), bfr_f, Option.bind_some]
              show _ = some (bfr y.f0 y.f1 x.f0 x.f1 && _)
              cases bfr y.f0 y.f1 x.f0 x.f1
              · rw [if_neg (by decide)]; rfl
              · rw [if_pos rfl, hi2]; rfl
        · rw [decide_eq_false h3, if_neg (by decide), decide_eq_false (fun h => h3 ⟨h.2.2.1, h.2.2.2.1⟩)]; rfl
theorem goodD_f (id lo hi gen : Int) (ds : List SD) (es : List SE) (hn : ds.length < 1152921504606846976) (k : Nat) (hk : ds.length + 2 ≤ k) : image_goodData.f k id lo hi ds gen es = some (gdD id lo hi ds) := by
  obtain ⟨k, rfl⟩ : ∃ m, k = m + 1 := ⟨k - 1, by omega⟩
  have hl := gD_loop id lo hi gen es ds [] k lo (⟨#[255]⟩ : ByteArray) (by simp; omega) (by omega) (fun y hy => by cases hy)
  simp only [List.nil_append, List.length_nil, List.getLast?_nil] at hl
  have hj : ∀ c : Bool, image_goodData.j0 (k + 1) c id lo hi ds gen es = if c = true then some false else image_goodData.l0 k ds (ds.length : Int) 0 id lo hi ds gen es lo (⟨#[255]⟩ : ByteArray) := fun c => by simp only [image_goodData.j0]
  unfold image_goodData.f gdD
  rw [show ((0 : Nat) : Int) = 0 from rfl] at hl
  by_cases h1 : id < 1
  · rw [if_pos h1, hj, if_pos rfl, decide_eq_false (fun h => by omega)]; rfl
  · rw [if_neg h1]
    by_cases h2 : id > 99999999
    · rw [if_pos h2, hj, if_pos rfl, decide_eq_false (fun h => by omega)]; rfl
    · rw [if_neg h2]
      by_cases h3 : lo ≥ hi
      · rw [if_pos h3, hj, if_pos rfl, decide_eq_false (fun h => by omega)]; rfl
      · rw [if_neg h3]
        by_cases h4 : hi > 4611686018427387903
        · rw [if_pos h4, hj, if_pos rfl, decide_eq_false (fun h => by omega)]; rfl
        · rw [if_neg h4]
          by_cases h5 : (ds.length : Int) > 65536
          · rw [hj, decide_eq_true h5, if_pos rfl, decide_eq_false (fun h => by omega)]; rfl
          · rw [hj, decide_eq_false h5, if_neg (by decide), decide_eq_true (show 1 ≤ id ∧ id ≤ 99999999 ∧ lo < hi ∧ hi ≤ 4611686018427387903 ∧ ds.length ≤ 65536 from ⟨by omega, by omega, by omega, by omega, by omega⟩), Bool.true_and]
            exact hl
/-! ### erasures -/
theorem gE_loop : ∀ (rest pre : List SE) (k : Nat) (lb : Int) (lk : ByteArray), pre.length + rest.length < 1152921504606846976 → rest.length < k → ((pre.getLast? = none ∧ lb = 0) ∨ ∃ y, pre.getLast? = some y ∧ lb = y.f0 ∧ lk = y.f2) →
    image_goodDelta.l0 k (pre ++ rest) ((pre ++ rest).length : Int) (pre.length : Int) lb lk = some (HImD.gd cE bE pre.getLast? rest) := by
  intro rest
  induction rest with
  | nil =>
    intro pre k lb lk hn hk _
    obtain ⟨k, rfl⟩ : ∃ m, k = m + 1 := ⟨k - 1, by simp at hk; omega⟩
    unfold image_goodDelta.l0
    rw [if_neg (by simp)]
    cases pre.getLast? <;> rfl
  | cons x rest ih =>
    intro pre k lb lk hn hk hl
    obtain ⟨k, rfl⟩ : ∃ m, k = m + 1 := ⟨k - 1, by simp at hk; omega⟩
    have hrd : rd_T60 (pre ++ x :: rest) (pre.length : Int) = x := getD_mid pre x _ rest
    have hi2 := ih (pre ++ [x]) k x.f0 x.f2 (by simp at hn ⊢; omega) (by simp at hk; omega) (Or.inr ⟨x, List.getLast?_concat, rfl, rfl⟩)
    have hlen : (pre ++ [x]).length = pre.length + 1 := by simp
    rw [List.append_assoc, List.singleton_append, List.getLast?_concat, hlen] at hi2
    have hlt : (pre.length : Int) < ((pre ++ x :: rest).length : Int) := by rw [List.length_append, List.length_cons]; omega
    unfold image_goodDelta.l0
    rw [if_pos hlt, if_pos (by omega), if_pos hlt, hrd, gd_cons, key_f, Option.bind_some, wstep _ (by omega)]
    rw [show cE x = decide (1 ≤ x.f0 ∧ x.f0 < x.f1 ∧ x.f1 ≤ 4611686018427387903 ∧ 1 ≤ x.f2.size ∧ x.f2.size ≤ 160) from rfl]
    by_cases h1 : x.f0 < 1
    · rw [if_pos h1, decide_eq_false (fun h => by omega)]; rfl
    · rw [if_neg h1]
      by_cases h2 : x.f1 ≤ x.f0
      · rw [if_pos h2, decide_eq_false (fun h => by omega)]; rfl
      · rw [if_neg h2]
        by_cases h3 : x.f1 > 4611686018427387903
        · rw [if_pos h3, decide_eq_false (fun h => by omega)]; rfl
        · rw [if_neg h3]
          by_cases h4 : 1 ≤ x.f2.size ∧ x.f2.size ≤ 160
          · rw [decide_eq_true h4, if_pos rfl, decide_eq_true (show 1 ≤ x.f0 ∧ x.f0 < x.f1 ∧ x.f1 ≤ 4611686018427387903 ∧ 1 ≤ x.f2.size ∧ x.f2.size ≤ 160 from ⟨by omega, by omega, by omega, h4.1, h4.2⟩), Bool.true_and, bfr_f, Option.bind_some]
            rcases hl with ⟨hp, rfl⟩ | ⟨y, hp, rfl, rfl⟩
            · rw [hp, show bfr 0 lk x.f0 x.f2 = true by unfold bfr; rw [decide_eq_true (show (0 : Int) < x.f0 by omega), Bool.true_or], if_pos rfl, hi2]
              rfl
            · rw [hp]
              show _ = some (bfr y.f0 y.f2 x.f0 x.f2 && _)
              cases bfr y.f0 y.f2 x.f0 x.f2
              · rw [if_neg (by decide)]; rfl
              · rw [if_pos rfl, hi2]; rfl
          · rw [decide_eq_false h4, if_neg (by decide), decide_eq_false (fun h => h4 ⟨h.2.2.2.1, h.2.2.2.2⟩)]; rfl
theorem goodE_f (id lo hi gen : Int) (ds : List SD) (es : List SE) (hn : es.length < 1152921504606846976) (k : Nat) (hk : es.length + 2 ≤ k) : image_goodDelta.f k id lo hi ds gen es = some (gdE id gen es) := by
  obtain ⟨k, rfl⟩ : ∃ m, k = m + 1 := ⟨k - 1, by omega⟩
  have hl := gE_loop es [] k 0 (⟨#[]⟩ : ByteArray) (by simp; omega) (by omega) (Or.inl ⟨rfl, rfl⟩)
  simp only [List.nil_append, List.length_nil, List.getLast?_nil] at hl
  have hj : ∀ c : Bool, image_goodDelta.j0 (k + 1) c id lo hi ds gen es = if c = true then some false else image_goodDelta.l0 k es (es.length : Int) 0 0 (⟨#[]⟩ : ByteArray) := fun c => by simp only [image_goodDelta.j0]
  unfold image_goodDelta.f gdE
  rw [show ((0 : Nat) : Int) = 0 from rfl] at hl
  by_cases h1 : id < 1
  · rw [if_pos h1, hj, if_pos rfl, decide_eq_false (fun h => by omega)]; rfl
  · rw [if_neg h1]
    by_cases h2 : id > 99999999
    · rw [if_pos h2, hj, if_pos rfl, decide_eq_false (fun h => by omega)]; rfl
    · rw [if_neg h2]
      by_cases h3 : gen < 1
      · rw [if_pos h3, hj, if_pos rfl, decide_eq_false (fun h => by omega)]; rfl
      · rw [if_neg h3]
        by_cases h4 : gen > 99999999
        · rw [if_pos h4, hj, if_pos rfl, decide_eq_false (fun h => by omega)]; rfl
        · rw [if_neg h4]
          by_cases h6 : (es.length : Int) < 1
          · rw [if_pos h6, hj, if_pos rfl, decide_eq_false (fun h => by omega)]; rfl
          · rw [if_neg h6]
            by_cases h5 : (es.length : Int) > 65536
            · rw [hj, decide_eq_true h5, if_pos rfl, decide_eq_false (fun h => by omega)]; rfl
            · rw [hj, decide_eq_false h5, if_neg (by decide), decide_eq_true (show 1 ≤ id ∧ id ≤ 99999999 ∧ 1 ≤ gen ∧ gen ≤ 99999999 ∧ 1 ≤ es.length ∧ es.length ≤ 65536 from ⟨by omega, by omega, by omega, by omega, by omega, by omega⟩), Bool.true_and]
              exact hl
end Go.Proofs.YtejjidggnnhgjaaDoor.HImK
/- The document's writers of layer 12, as it prints them, come to the bytes of the plain functions. -/
set_option linter.unusedVariables false
set_option linter.unusedSimpArgs false
namespace Go.Proofs.YtejjidggnnhgjaaDoor.HImKe
open Go.RowKit Go.Proofs.YtejjidggnnhgjaaDoor.PImg Go.Proofs.YtejjidggnnhgjaaDoor.HBase Go.Proofs.YtejjidggnnhgjaaDoor.HBlob Go.Proofs.YtejjidggnnhgjaaDoor.HCk Go.Proofs.YtejjidggnnhgjaaDoor.HImP Go.Proofs.YtejjidggnnhgjaaDoor.HImD Go.Proofs.YtejjidggnnhgjaaDoor.HImE Go.Proofs.YtejjidggnnhgjaaDoor.HImK Go.Proofs.YtejjidggnnhgjaaDoorW.PrintWords Go.Proofs.YtejjidggnnhgjaaDoorW.PrintLast Go.Proofs.YtejjidggnnhgjaaDoor.HCore
/-- Bytes as numbers. -/
def nb (l : List UInt8) : List Int := l.map fun c => (c.toNat : Int)
end Go.Proofs.YtejjidggnnhgjaaDoor.HImKe
/- EncodeDelta of layer 12, by the document: bytes appended to a row of the call's own. -/
set_option linter.unusedVariables false
set_option linter.unusedSimpArgs false
namespace Go.Proofs.YtejjidggnnhgjaaDoor.HImEr
open Go.RowKit Go.Proofs.YtejjidggnnhgjaaDoor.PImg Go.Proofs.YtejjidggnnhgjaaDoor.HBase Go.Proofs.YtejjidggnnhgjaaDoor.HBlob Go.Proofs.YtejjidggnnhgjaaDoor.HCk Go.Proofs.YtejjidggnnhgjaaDoor.HImP Go.Proofs.YtejjidggnnhgjaaDoor.HImD Go.Proofs.YtejjidggnnhgjaaDoor.HImE Go.Proofs.YtejjidggnnhgjaaDoor.HImK Go.Proofs.YtejjidggnnhgjaaDoor.HImKe Go.Proofs.YtejjidggnnhgjaaDoorW.PrintWords Go.Proofs.YtejjidggnnhgjaaDoorW.PrintLast Go.Proofs.YtejjidggnnhgjaaDoorW.PrintMore Go.Proofs.YtejjidggnnhgjaaDoor.HCore
/-- What stands while bytes are appended: the row, and the parameter's block. -/
structure Ap (w W : World) (v : Value) (l : List UInt8) (cs : Array Value) : Prop where
  own : W.ownsRow w.heap.size 5 1 v (nb l).length (nums .u8 (nb l))
  below : Below w.heap.size w W
  box : W.heap[w.heap.size]? = some (.cells cs 46 (0, 0))
theorem Ap.step {w W W' : World} {v : Value} {l : List UInt8} {cs : Array Value} (h : Ap w W v l cs) (hb : Below W.heap.size W W') : Ap w W' v l cs :=
  ⟨Kd.own_of_R (enc := Value.int .u8) (h1 := fun _ => rfl) (Kd.R_below (Kd.R_of_own (enc := Value.int .u8) (h1 := fun _ => rfl) (ok := fun _ => True) h.own (fun _ _ => trivial)) hb), below_then h.below h.below.size hb, (hb.block _ (blk_lt h.box)).trans h.box⟩
end Go.Proofs.YtejjidggnnhgjaaDoor.HImEr
