/- Texts of this seat laid together, what the statement needs of them: PImgx10, HImCe, HImDe, HImGm, HImCm, HImS, HImL, HImNm, HImBk, HImMk, HImS2. -/
import Derived.Test.YtejjidggnnhgjaaDoorZE2
import Derived.Maps.OwnSet
import Derived.ChangeAlike
namespace Go.Proofs.YtejjidggnnhgjaaDoor.PImg
open Go.RowKit Go.Proofs.YtejjidggnnhgjaaDoor.HBase Go.Proofs.YtejjidggnnhgjaaDoor.HBlob Go.Proofs.YtejjidggnnhgjaaDoor.HSum Go.Proofs.YtejjidggnnhgjaaDoor.HUv Go.Proofs.YtejjidggnnhgjaaDoorW.PrintWords Go.Proofs.YtejjidggnnhgjaaDoorW.PrintLast Go.Proofs.YtejjidggnnhgjaaDoorW.PrintMore
attribute [local go_sem] max2_int min2_int max_two min_two max_three min_three max_four min_four   -- for this text's walks alone
set_option linter.unusedVariables false
set_option linter.unusedSimpArgs false
/-! ### image_goodDelta: function 47 -/
mutual
def image_goodDelta.j0 : Nat → Bool → Int → Int → Int → List (S58) → Int → List (S60) → Option (Bool)
  | 0, _, _, _, _, _, _, _ => none
  | k + 1, x36, x259000, x259001, x259002, x259003, x259004, x259005 => if x36 = true then (some false) else (image_goodDelta.l0 k x259005 (x259005.length : Int) 0 0 (⟨#[]⟩ : ByteArray))
def image_goodDelta.l0 : Nat → List (S60) → Int → Int → Int → ByteArray → Option (Bool)
  | 0, _, _, _, _, _ => none
  | k + 1, x38, x39, x40, x260000, x260001 => if x40 < x39 then (if 0 ≤ x40 then (if x40 < (x38.length : Int) then (if ((rd_T60 x38 x40).f0) < 1 then (some false) else (if ((rd_T60 x38 x40).f1) ≤ ((rd_T60 x38 x40).f0) then (some false) else (if ((rd_T60 x38 x40).f1) > 4611686018427387903 then (some false) else ((image_goodKey.f ((rd_T60 x38 x40).f2)).bind fun t263 => (if t263 = true then ((image_place_before.f x260000 x260001 ((rd_T60 x38 x40).f0) ((rd_T60 x38 x40).f2)).bind fun t264 => (if t264 = true then (image_goodDelta.l0 k x38 x39 (wrap64 (x40 + 1)) ((rd_T60 x38 x40).f0) ((rd_T60 x38 x40).f2)) else (some false))) else (some false)))))) else (none)) else (none)) else (some true)
end
def image_goodDelta.f (k : Nat) (a0_0 : Int) (a0_1 : Int) (a0_2 : Int) (l0_3 : List (S58)) (a0_4 : Int) (l0_5 : List (S60)) : Option (Bool) := if a0_0 < 1 then (image_goodDelta.j0 k true a0_0 a0_1 a0_2 l0_3 a0_4 l0_5) else (if a0_0 > 99999999 then (image_goodDelta.j0 k true a0_0 a0_1 a0_2 l0_3 a0_4 l0_5) else (if a0_4 < 1 then (image_goodDelta.j0 k true a0_0 a0_1 a0_2 l0_3 a0_4 l0_5) else (if a0_4 > 99999999 then (image_goodDelta.j0 k true a0_0 a0_1 a0_2 l0_3 a0_4 l0_5) else (if (l0_5.length : Int) < 1 then (image_goodDelta.j0 k true a0_0 a0_1 a0_2 l0_3 a0_4 l0_5) else (image_goodDelta.j0 k (decide ((l0_5.length : Int) > 65536)) a0_0 a0_1 a0_2 l0_3 a0_4 l0_5)))))
set_option maxHeartbeats 8000000 in
set_option maxRecDepth 100000 in
theorem image_goodDelta.calls (k : Nat) (a0_0 : Int) (a0_1 : Int) (a0_2 : Int) (A0_3 : Option Addr) (c0_3 : Nat) (l0_3 : List (S58)) (a0_4 : Int) (A0_5 : Option Addr) (c0_5 : Nat) (l0_5 : List (S60)) (r : Bool) (w : World) (hr0_3 : Kd.C k58 w A0_3 l0_3.length l0_3) (hc0_3 : l0_3.length ≤ c0_3) (hr0_5 : Kd.C k60 w A0_5 l0_5.length l0_5) (hc0_5 : l0_5.length ≤ c0_5) (h : image_goodDelta.f k a0_0 a0_1 a0_2 l0_3 a0_4 l0_5 = some r) :
    Calls Tryd.prog 47 #[.agg #[.int .i64 a0_0, .int .u64 a0_1, .int .u64 a0_2, .slice A0_3 l0_3.length c0_3, .int .i64 a0_4, .slice A0_5 l0_5.length c0_5]] w fun e w' => e = .returned (.bool r) ∧ Below w.heap.size w w' := by
  have hu46 := Tryd.underlying46
  have hu121 := Tryd.underlying121
  have hu60 := Tryd.underlying60
  have HR0_3 := Aside0.mk hr0_3
  have HC0_3 := Aside0.mk hc0_3
  clear hr0_3 hc0_3
  have HR0_5 := Aside0.mk hr0_5
  have HC0_5 := Aside0.mk hc0_5
  clear hr0_5 hc0_5
  have HB := Aside0.mk (Below.refl w.heap.size w)
  have H : (if a0_0 < 1 then (image_goodDelta.j0 k true a0_0 a0_1 a0_2 l0_3 a0_4 l0_5) else (if a0_0 > 99999999 then (image_goodDelta.j0 k true a0_0 a0_1 a0_2 l0_3 a0_4 l0_5) else (if a0_4 < 1 then (image_goodDelta.j0 k true a0_0 a0_1 a0_2 l0_3 a0_4 l0_5) else (if a0_4 > 99999999 then (image_goodDelta.j0 k true a0_0 a0_1 a0_2 l0_3 a0_4 l0_5) else (if (l0_5.length : Int) < 1 then (image_goodDelta.j0 k true a0_0 a0_1 a0_2 l0_3 a0_4 l0_5) else (image_goodDelta.j0 k (decide ((l0_5.length : Int) > 65536)) a0_0 a0_1 a0_2 l0_3 a0_4 l0_5)))))) = some r := h
  clear h
  have HC2 := Aside0.mk H
  clear H
  go_enter Tryd.func47, Tryd.ntmps47
  go_upto_region 1 with (first | ((with_reducible refine gate_dst (N := 1) rfl ?_); (try (refine gate_guard (by rfl) ?_; dsimp only)); refine box_event ?hg (N := 1) ?hd (cs := #[.int .i64 a0_0, .int .u64 a0_1, .int .u64 a0_2, .slice A0_3 l0_3.length c0_3, .int .i64 a0_4, .slice A0_5 l0_5.length c0_5]) (t := 46) ?hr ?_; (case hd => rfl); (case hg => rfl); (case hr => first | (go_simp; done) | (go_simp; rfl)); intro gb258 hg w3 hbox hb; have n0_ := Aside0.mk (below_step (by repeat (first | (with_reducible first | exact HB.out | apply below_alloc | apply pw_below_drewN | apply below_drew1) | exact HB.out)) hb); have n1_ := Aside0.mk (hbox); have n2_ := Aside0.mk ((by rw [hg]; exact (below_size (by repeat (first | (with_reducible first | exact HB.out | apply below_alloc | apply pw_below_drewN | apply below_drew1) | exact HB.out))) : w.heap.size ≤ gb258)); have n3_ := Aside0.mk ((by rw [hg]; exact (below_size (by repeat (first | (with_reducible first | exact HB.out | apply below_alloc | apply pw_below_drewN | apply below_drew1) | exact HB.out))) : w.heap.size ≤ gb258)); clear HB; have HB := n0_; have BK258 := n1_; have GW258 := n2_; have GE258 := n3_; clear n0_ n1_ n2_ n3_; clear hb hbox hg))
  (try simp only [Act.put, List.setIfInBounds_toArray, List.set_cons_zero, List.set_cons_succ])
  go_cut [36] (fun v36 wc => ∃ (kq : Nat) (x36_1 : Bool), v36 = .bool x36_1 ∧ Aside0 (image_goodDelta.j0 kq x36_1 a0_0 a0_1 a0_2 l0_3 a0_4 l0_5 = some r) ∧ Aside0 (kq ≤ k) ∧ Aside0 (wc.heap[gb258]? = some (.cells #[.int .i64 a0_0, .int .u64 a0_1, .int .u64 a0_2, (.slice A0_3 l0_3.length c0_3), .int .i64 a0_4, (.slice A0_5 l0_5.length c0_5)] 46 (0, 0))) ∧ Aside0 (Below w.heap.size w wc))
  case first =>
    have H := HC2.out
    clear HC2
    by_cases c4 : a0_0 < 1
    · rw [if_pos c4] at H
      have c4b0 : decide (a0_0 < 1) = true := decide_eq_true c4
      clear c4
      (first | rw [c4b0] | (simp only [i64_w, i32_w]; rw [c4b0]) | skip)
      have H' := Aside0.mk H
      clear H
      have hcz5_0 : w3.cell? ⟨gb258, 0, none⟩ = some (.int .i64 a0_0) := (blk_cell BK258.out 0).trans rfl
      have hcz5_1 : w3.cell? ⟨gb258, 1, none⟩ = some (.int .u64 a0_1) := (blk_cell BK258.out 1).trans rfl
      have hcz5_2 : w3.cell? ⟨gb258, 2, none⟩ = some (.int .u64 a0_2) := (blk_cell BK258.out 2).trans rfl
      have hcz5_3 : w3.cell? ⟨gb258, 3, none⟩ = some (.slice A0_3 l0_3.length c0_3) := (blk_cell BK258.out 3).trans rfl
      have hcz5_4 : w3.cell? ⟨gb258, 4, none⟩ = some (.int .i64 a0_4) := (blk_cell BK258.out 4).trans rfl
      have hcz5_5 : w3.cell? ⟨gb258, 5, none⟩ = some (.slice A0_5 l0_5.length c0_5) := (blk_cell BK258.out 5).trans rfl
      have hfz5_0 := blk_frozen BK258.out 0
      have hfz5_1 := blk_frozen BK258.out 1
      have hfz5_2 := blk_frozen BK258.out 2
      have hfz5_3 := blk_frozen BK258.out 3
      have hfz5_4 := blk_frozen BK258.out 4
      have hfz5_5 := blk_frozen BK258.out 5
      go_wp2
      go_meet
      case rel => exact ⟨_, (true), (by first | rfl | (simp; done) | (simp [*]; done)), H', ⟨by first | omega | exact Nat.le_refl _⟩, ⟨by (with_reducible repeat (first | refine blk_drewN ?_ _ | refine blk_drew ?_ | refine blk_alloc ?_ _)); exact BK258.out⟩, ⟨by repeat (first | (with_reducible first | exact HB.out | apply below_alloc | apply pw_below_drewN | apply below_drew1 | refine below_set ?_ GE258.out) | exact HB.out)⟩⟩
    · rw [if_neg c4] at H
      have c4b0 : decide (a0_0 < 1) = false := decide_eq_false c4
      clear c4
      (first | rw [c4b0] | (simp only [i64_w, i32_w]; rw [c4b0]) | skip)
      by_cases c6 : a0_0 > 99999999
      · rw [if_pos c6] at H
        have c6b0 : decide (99999999 < a0_0) = true := decide_eq_true c6
        clear c6
        have H' := Aside0.mk H
        clear H
        have hcz7_0 : w3.cell? ⟨gb258, 0, none⟩ = some (.int .i64 a0_0) := (blk_cell BK258.out 0).trans rfl
        have hcz7_1 : w3.cell? ⟨gb258, 1, none⟩ = some (.int .u64 a0_1) := (blk_cell BK258.out 1).trans rfl
        have hcz7_2 : w3.cell? ⟨gb258, 2, none⟩ = some (.int .u64 a0_2) := (blk_cell BK258.out 2).trans rfl
        have hcz7_3 : w3.cell? ⟨gb258, 3, none⟩ = some (.slice A0_3 l0_3.length c0_3) := (blk_cell BK258.out 3).trans rfl
        have hcz7_4 : w3.cell? ⟨gb258, 4, none⟩ = some (.int .i64 a0_4) := (blk_cell BK258.out 4).trans rfl
        have hcz7_5 : w3.cell? ⟨gb258, 5, none⟩ = some (.slice A0_5 l0_5.length c0_5) := (blk_cell BK258.out 5).trans rfl
        have hfz7_0 := blk_frozen BK258.out 0
        have hfz7_1 := blk_frozen BK258.out 1
        have hfz7_2 := blk_frozen BK258.out 2
        have hfz7_3 := blk_frozen BK258.out 3
        have hfz7_4 := blk_frozen BK258.out 4
        have hfz7_5 := blk_frozen BK258.out 5
        go_wp2
        go_meet
        case rel => exact ⟨_, (true), (by first | rfl | (simp; done) | (simp [*]; done)), H', ⟨by first | omega | exact Nat.le_refl _⟩, ⟨by (with_reducible repeat (first | refine blk_drewN ?_ _ | refine blk_drew ?_ | refine blk_alloc ?_ _)); exact BK258.out⟩, ⟨by repeat (first | (with_reducible first | exact HB.out | apply below_alloc | apply pw_below_drewN | apply below_drew1 | refine below_set ?_ GE258.out) | exact HB.out)⟩⟩
      · rw [if_neg c6] at H
        have c6b0 : decide (99999999 < a0_0) = false := decide_eq_false c6
        clear c6
        by_cases c8 : a0_4 < 1
        · rw [if_pos c8] at H
          have c8b0 : decide (a0_4 < 1) = true := decide_eq_true c8
          clear c8
          have H' := Aside0.mk H
          clear H
          have hcz9_0 : w3.cell? ⟨gb258, 0, none⟩ = some (.int .i64 a0_0) := (blk_cell BK258.out 0).trans rfl
          have hcz9_1 : w3.cell? ⟨gb258, 1, none⟩ = some (.int .u64 a0_1) := (blk_cell BK258.out 1).trans rfl
          have hcz9_2 : w3.cell? ⟨gb258, 2, none⟩ = some (.int .u64 a0_2) := (blk_cell BK258.out 2).trans rfl
          have hcz9_3 : w3.cell? ⟨gb258, 3, none⟩ = some (.slice A0_3 l0_3.length c0_3) := (blk_cell BK258.out 3).trans rfl
          have hcz9_4 : w3.cell? ⟨gb258, 4, none⟩ = some (.int .i64 a0_4) := (blk_cell BK258.out 4).trans rfl
          have hcz9_5 : w3.cell? ⟨gb258, 5, none⟩ = some (.slice A0_5 l0_5.length c0_5) := (blk_cell BK258.out 5).trans rfl
          have hfz9_0 := blk_frozen BK258.out 0
          have hfz9_1 := blk_frozen BK258.out 1
          have hfz9_2 := blk_frozen BK258.out 2
          have hfz9_3 := blk_frozen BK258.out 3
          have hfz9_4 := blk_frozen BK258.out 4
          have hfz9_5 := blk_frozen BK258.out 5
          go_wp2
          go_meet
          case rel => exact ⟨_, (true), (by first | rfl | (simp; done) | (simp [*]; done)), H', ⟨by first | omega | exact Nat.le_refl _⟩, ⟨by (with_reducible repeat (first | refine blk_drewN ?_ _ | refine blk_drew ?_ | refine blk_alloc ?_ _)); exact BK258.out⟩, ⟨by repeat (first | (with_reducible first | exact HB.out | apply below_alloc | apply pw_below_drewN | apply below_drew1 | refine below_set ?_ GE258.out) | exact HB.out)⟩⟩
        · rw [if_neg c8] at H
          have c8b0 : decide (a0_4 < 1) = false := decide_eq_false c8
          clear c8
          by_cases c10 : a0_4 > 99999999
          · rw [if_pos c10] at H
            have c10b0 : decide (99999999 < a0_4) = true := decide_eq_true c10
            clear c10
            have H' := Aside0.mk H
            clear H
            have hcz11_0 : w3.cell? ⟨gb258, 0, none⟩ = some (.int .i64 a0_0) := (blk_cell BK258.out 0).trans rfl
            have hcz11_1 : w3.cell? ⟨gb258, 1, none⟩ = some (.int .u64 a0_1) := (blk_cell BK258.out 1).trans rfl
            have hcz11_2 : w3.cell? ⟨gb258, 2, none⟩ = some (.int .u64 a0_2) := (blk_cell BK258.out 2).trans rfl
            have hcz11_3 : w3.cell? ⟨gb258, 3, none⟩ = some (.slice A0_3 l0_3.length c0_3) := (blk_cell BK258.out 3).trans rfl
            have hcz11_4 : w3.cell? ⟨gb258, 4, none⟩ = some (.int .i64 a0_4) := (blk_cell BK258.out 4).trans rfl
            have hcz11_5 : w3.cell? ⟨gb258, 5, none⟩ = some (.slice A0_5 l0_5.length c0_5) := (blk_cell BK258.out 5).trans rfl
            have hfz11_0 := blk_frozen BK258.out 0
            have hfz11_1 := blk_frozen BK258.out 1
            have hfz11_2 := blk_frozen BK258.out 2
            have hfz11_3 := blk_frozen BK258.out 3
            have hfz11_4 := blk_frozen BK258.out 4
            have hfz11_5 := blk_frozen BK258.out 5
            go_wp2
            go_meet
            case rel => exact ⟨_, (true), (by first | rfl | (simp; done) | (simp [*]; done)), H', ⟨by first | omega | exact Nat.le_refl _⟩, ⟨by (with_reducible repeat (first | refine blk_drewN ?_ _ | refine blk_drew ?_ | refine blk_alloc ?_ _)); exact BK258.out⟩, ⟨by repeat (first | (with_reducible first | exact HB.out | apply below_alloc | apply pw_below_drewN | apply below_drew1 | refine below_set ?_ GE258.out) | exact HB.out)⟩⟩
          · rw [if_neg c10] at H
            have c10b0 : decide (99999999 < a0_4) = false := decide_eq_false c10
            clear c10
            by_cases c12 : (l0_5.length : Int) < 1
            · rw [if_pos c12] at H
              have c12b0 : decide ((l0_5.length : Int) < 1) = true := decide_eq_true c12
              have c12b1 : decide (l0_5.length < 1) = true := decide_eq_true (by omega)
              clear c12
              have H' := Aside0.mk H
              clear H
              have hcz13_0 : w3.cell? ⟨gb258, 0, none⟩ = some (.int .i64 a0_0) := (blk_cell BK258.out 0).trans rfl
              have hcz13_1 : w3.cell? ⟨gb258, 1, none⟩ = some (.int .u64 a0_1) := (blk_cell BK258.out 1).trans rfl
              have hcz13_2 : w3.cell? ⟨gb258, 2, none⟩ = some (.int .u64 a0_2) := (blk_cell BK258.out 2).trans rfl
              have hcz13_3 : w3.cell? ⟨gb258, 3, none⟩ = some (.slice A0_3 l0_3.length c0_3) := (blk_cell BK258.out 3).trans rfl
              have hcz13_4 : w3.cell? ⟨gb258, 4, none⟩ = some (.int .i64 a0_4) := (blk_cell BK258.out 4).trans rfl
              have hcz13_5 : w3.cell? ⟨gb258, 5, none⟩ = some (.slice A0_5 l0_5.length c0_5) := (blk_cell BK258.out 5).trans rfl
              have hfz13_0 := blk_frozen BK258.out 0
              have hfz13_1 := blk_frozen BK258.out 1
              have hfz13_2 := blk_frozen BK258.out 2
              have hfz13_3 := blk_frozen BK258.out 3
              have hfz13_4 := blk_frozen BK258.out 4
              have hfz13_5 := blk_frozen BK258.out 5
              go_wp2
              go_meet
              case rel => exact ⟨_, (true), (by first | rfl | (simp; done) | (simp [*]; done)), H', ⟨by first | omega | exact Nat.le_refl _⟩, ⟨by (with_reducible repeat (first | refine blk_drewN ?_ _ | refine blk_drew ?_ | refine blk_alloc ?_ _)); exact BK258.out⟩, ⟨by repeat (first | (with_reducible first | exact HB.out | apply below_alloc | apply pw_below_drewN | apply below_drew1 | refine below_set ?_ GE258.out) | exact HB.out)⟩⟩
            · rw [if_neg c12] at H
              have c12b0 : decide ((l0_5.length : Int) < 1) = false := decide_eq_false c12
              have c12b1 : decide (l0_5.length < 1) = false := decide_eq_false (by omega)
              clear c12
              have H' := Aside0.mk H
              clear H
              have hcz14_0 : w3.cell? ⟨gb258, 0, none⟩ = some (.int .i64 a0_0) := (blk_cell BK258.out 0).trans rfl
              have hcz14_1 : w3.cell? ⟨gb258, 1, none⟩ = some (.int .u64 a0_1) := (blk_cell BK258.out 1).trans rfl
              have hcz14_2 : w3.cell? ⟨gb258, 2, none⟩ = some (.int .u64 a0_2) := (blk_cell BK258.out 2).trans rfl
              have hcz14_3 : w3.cell? ⟨gb258, 3, none⟩ = some (.slice A0_3 l0_3.length c0_3) := (blk_cell BK258.out 3).trans rfl
              have hcz14_4 : w3.cell? ⟨gb258, 4, none⟩ = some (.int .i64 a0_4) := (blk_cell BK258.out 4).trans rfl
              have hcz14_5 : w3.cell? ⟨gb258, 5, none⟩ = some (.slice A0_5 l0_5.length c0_5) := (blk_cell BK258.out 5).trans rfl
              have hfz14_0 := blk_frozen BK258.out 0
              have hfz14_1 := blk_frozen BK258.out 1
              have hfz14_2 := blk_frozen BK258.out 2
              have hfz14_3 := blk_frozen BK258.out 3
              have hfz14_4 := blk_frozen BK258.out 4
              have hfz14_5 := blk_frozen BK258.out 5
              go_wp2
              go_meet
              case rel => exact ⟨_, (decide ((l0_5.length : Int) > 65536)), (by first | rfl | (simp; done) | (simp [*]; done)), H', ⟨by first | omega | exact Nat.le_refl _⟩, ⟨by (with_reducible repeat (first | refine blk_drewN ?_ _ | refine blk_drew ?_ | refine blk_alloc ?_ _)); exact BK258.out⟩, ⟨by repeat (first | (with_reducible first | exact HB.out | apply below_alloc | apply pw_below_drewN | apply below_drew1 | refine below_set ?_ GE258.out) | exact HB.out)⟩⟩
  case rest =>
    clear HC2
    try clear c1
    try clear p2
    try clear c4
    try clear c4b0
    try clear c6
    try clear c6b0
    try clear c8
    try clear c8b0
    try clear c10
    try clear c10b0
    try clear c12
    try clear c12b0
    try clear c12b1
    try clear hcz11_0
    try clear hcz11_1
    try clear hcz11_2
    try clear hcz11_3
    try clear hcz11_4
    try clear hcz11_5
    try clear hcz13_0
    try clear hcz13_1
    try clear hcz13_2
    try clear hcz13_3
    try clear hcz13_4
    try clear hcz13_5
    try clear hcz14_0
    try clear hcz14_1
    try clear hcz14_2
    try clear hcz14_3
    try clear hcz14_4
    try clear hcz14_5
    try clear hcz5_0
    try clear hcz5_1
    try clear hcz5_2
    try clear hcz5_3
    try clear hcz5_4
    try clear hcz5_5
    try clear hcz7_0
    try clear hcz7_1
    try clear hcz7_2
    try clear hcz7_3
    try clear hcz7_4
    try clear hcz7_5
    try clear hcz9_0
    try clear hcz9_1
    try clear hcz9_2
    try clear hcz9_3
    try clear hcz9_4
    try clear hcz9_5
    try clear hfz11_0
    try clear hfz11_1
    try clear hfz11_2
    try clear hfz11_3
    try clear hfz11_4
    try clear hfz11_5
    try clear hfz13_0
    try clear hfz13_1
    try clear hfz13_2
    try clear hfz13_3
    try clear hfz13_4
    try clear hfz13_5
    try clear hfz14_0
    try clear hfz14_1
    try clear hfz14_2
    try clear hfz14_3
    try clear hfz14_4
    try clear hfz14_5
    try clear hfz5_0
    try clear hfz5_1
    try clear hfz5_2
    try clear hfz5_3
    try clear hfz5_4
    try clear hfz5_5
    try clear hfz7_0
    try clear hfz7_1
    try clear hfz7_2
    try clear hfz7_3
    try clear hfz7_4
    try clear hfz7_5
    try clear hfz9_0
    try clear hfz9_1
    try clear hfz9_2
    try clear hfz9_3
    try clear hfz9_4
    try clear hfz9_5
    obtain ⟨kq, x36_1, rfl, HA, HJ1, BK258, HB⟩ := hcut
    cases kq with
    | zero => exact absurd HA.out (by simp [image_goodDelta.j0])
    | succ kj1 =>
      have H := HA.out
      clear HA
      simp only [image_goodDelta.j0] at H
      by_cases c15 : x36_1 = true
      · subst c15
        have H1 : (some false) = some r := by rw [if_pos rfl] at H; exact H
        clear H
        have H := H1
        clear H1
        obtain rfl := Option.some.inj H
        go_wp2
        go_ret
        exact ⟨by first | rfl | (simp [errW_none, errW_some] <;> rfl) | (simp [*, errW_none, errW_some] <;> rfl), by repeat (first | (with_reducible first | exact HB.out | apply below_alloc | apply pw_below_drewN | apply below_drew1 | refine below_set ?_ GE258.out) | exact HB.out)⟩
      · replace c15 := Bool.eq_false_iff.mpr c15
        subst c15
        have H1 : (image_goodDelta.l0 kj1 l0_5 (l0_5.length : Int) 0 0 (⟨#[]⟩ : ByteArray)) = some r := by rw [if_neg (show ¬ (false = true) by decide)] at H; exact H
        clear H
        have H := H1
        clear H1
        have H' := Aside0.mk H
        clear H
        go_wp2_with (first | ((with_reducible refine gate_dst (N := 3) rfl ?_); (try (refine gate_guard (by rfl) ?_; dsimp only)); refine box_event ?hg (N := 3) ?hd (cs := #[.int .u64 0, .string (⟨#[]⟩ : ByteArray)]) (t := 121) ?hr ?_; (case hd => rfl); (case hg => rfl); (case hr => first | (go_simp; done) | (go_simp; rfl)); intro gb259 hg w16 hbox hb; have n0_ := Aside0.mk (blk_below (g := gb258) (o := .cells #[.int .i64 a0_0, .int .u64 a0_1, .int .u64 a0_2, .slice A0_3 l0_3.length c0_3, .int .i64 a0_4, .slice A0_5 l0_5.length c0_5] 46 (0, 0)) (by (with_reducible repeat (first | refine blk_drewN ?_ _ | refine blk_drew ?_ | refine blk_alloc ?_ _)); exact BK258.out) hb); have n1_ := Aside0.mk (below_step (by repeat (first | (with_reducible first | exact HB.out | apply below_alloc | apply pw_below_drewN | apply below_drew1 | refine below_set ?_ GE258.out) | exact HB.out)) hb); have n2_ := Aside0.mk (hbox); have n3_ := Aside0.mk ((by rw [hg]; exact (below_size (by repeat (first | (with_reducible first | exact HB.out | apply below_alloc | apply pw_below_drewN | apply below_drew1 | refine below_set ?_ GE258.out) | exact HB.out))) : w.heap.size ≤ gb259)); have n4_ := Aside0.mk ((by rw [hg]; exact (below_size (by repeat (first | (with_reducible first | exact HB.out | apply below_alloc | apply pw_below_drewN | apply below_drew1 | refine below_set ?_ GE258.out) | exact HB.out))) : w.heap.size ≤ gb259)); have n5_ := Aside0.mk ((by rw [hg]; exact Nat.ne_of_lt (blk_lt (g := gb258) (o := .cells #[.int .i64 a0_0, .int .u64 a0_1, .int .u64 a0_2, .slice A0_3 l0_3.length c0_3, .int .i64 a0_4, .slice A0_5 l0_5.length c0_5] 46 (0, 0)) (by (with_reducible repeat (first | refine blk_drewN ?_ _ | refine blk_drew ?_ | refine blk_alloc ?_ _)); exact BK258.out)) : gb258 ≠ gb259)); have n6_ := Aside0.mk ((by rw [hg]; exact Nat.ne_of_gt (blk_lt (g := gb258) (o := .cells #[.int .i64 a0_0, .int .u64 a0_1, .int .u64 a0_2, .slice A0_3 l0_3.length c0_3, .int .i64 a0_4, .slice A0_5 l0_5.length c0_5] 46 (0, 0)) (by (with_reducible repeat (first | refine blk_drewN ?_ _ | refine blk_drew ?_ | refine blk_alloc ?_ _)); exact BK258.out)) : gb259 ≠ gb258)); clear BK258; clear HB; have BK258 := n0_; have HB := n1_; have BK259 := n2_; have GW259 := n3_; have GE259 := n4_; have NB258_259 := n5_; have NB259_258 := n6_; clear n0_ n1_ n2_ n3_ n4_ n5_ n6_; clear hb hbox hg; have hnb17 := NB258_259.out; have hnc17 := NB259_258.out; have hcz18_0 : w16.cell? ⟨gb258, 0, none⟩ = some (.int .i64 a0_0) := (blk_cell BK258.out 0).trans rfl; have hcz18_1 : w16.cell? ⟨gb258, 1, none⟩ = some (.int .u64 a0_1) := (blk_cell BK258.out 1).trans rfl; have hcz18_2 : w16.cell? ⟨gb258, 2, none⟩ = some (.int .u64 a0_2) := (blk_cell BK258.out 2).trans rfl; have hcz18_3 : w16.cell? ⟨gb258, 3, none⟩ = some (.slice A0_3 l0_3.length c0_3) := (blk_cell BK258.out 3).trans rfl; have hcz18_4 : w16.cell? ⟨gb258, 4, none⟩ = some (.int .i64 a0_4) := (blk_cell BK258.out 4).trans rfl; have hcz18_5 : w16.cell? ⟨gb258, 5, none⟩ = some (.slice A0_5 l0_5.length c0_5) := (blk_cell BK258.out 5).trans rfl; have hfz18_0 := blk_frozen BK258.out 0; have hfz18_1 := blk_frozen BK258.out 1; have hfz18_2 := blk_frozen BK258.out 2; have hfz18_3 := blk_frozen BK258.out 3; have hfz18_4 := blk_frozen BK258.out 4; have hfz18_5 := blk_frozen BK258.out 5))
        go_loopg [40] kj1 (fun kq v40 w' => ∃ (x40_2 : Int) (x260000_2 : Int) (x260001_2 : ByteArray), v40 = .int .i64 x40_2 ∧ Aside0 (image_goodDelta.l0 kq l0_5 (l0_5.length : Int) x40_2 x260000_2 x260001_2 = some r) ∧ Aside0 (kq ≤ kj1) ∧ Aside0 (w'.heap[gb258]? = some (.cells #[.int .i64 a0_0, .int .u64 a0_1, .int .u64 a0_2, (.slice A0_3 l0_3.length c0_3), .int .i64 a0_4, (.slice A0_5 l0_5.length c0_5)] 46 (0, 0))) ∧ Aside0 (w'.heap[gb259]? = some (.cells #[.int .u64 x260000_2, .string x260001_2] 121 (0, 0))) ∧ Aside0 (Below w.heap.size w w'))
        case atStart => exact ⟨(0), (0), ((⟨#[]⟩ : ByteArray)), (by first | rfl | (simp; done) | (simp [*]; done)), H', ⟨Nat.le_refl _⟩, ⟨by (with_reducible repeat (first | refine blk_drewN ?_ _ | refine blk_drew ?_ | refine blk_alloc ?_ _)); exact BK258.out⟩, ⟨by (with_reducible repeat (first | refine blk_drewN ?_ _ | refine blk_drew ?_ | refine blk_alloc ?_ _)); exact BK259.out⟩, ⟨by repeat (first | (with_reducible first | exact HB.out | apply below_alloc | apply pw_below_drewN | apply below_drew1 | refine below_set ?_ GE258.out | refine below_set ?_ GE259.out) | exact HB.out)⟩⟩
        case round =>
          clear H'
          try clear c1
          try clear p2
          try clear c4
          try clear c4b0
          try clear c6
          try clear c6b0
          try clear c8
          try clear c8b0
          try clear c10
          try clear c10b0
          try clear c12
          try clear c12b0
          try clear c12b1
          try clear c15
          try clear c17
          try clear hcz11_0
          try clear hcz11_1
          try clear hcz11_2
          try clear hcz11_3
          try clear hcz11_4
          try clear hcz11_5
          try clear hcz13_0
          try clear hcz13_1
          try clear hcz13_2
          try clear hcz13_3
          try clear hcz13_4
          try clear hcz13_5
          try clear hcz14_0
          try clear hcz14_1
          try clear hcz14_2
          try clear hcz14_3
          try clear hcz14_4
          try clear hcz14_5
          try clear hcz18_0
          try clear hcz18_1
          try clear hcz18_2
          try clear hcz18_3
          try clear hcz18_4
          try clear hcz18_5
          try clear hcz5_0
          try clear hcz5_1
          try clear hcz5_2
          try clear hcz5_3
          try clear hcz5_4
          try clear hcz5_5
          try clear hcz7_0
          try clear hcz7_1
          try clear hcz7_2
          try clear hcz7_3
          try clear hcz7_4
          try clear hcz7_5
          try clear hcz9_0
          try clear hcz9_1
          try clear hcz9_2
          try clear hcz9_3
          try clear hcz9_4
          try clear hcz9_5
          try clear hfz11_0
          try clear hfz11_1
          try clear hfz11_2
          try clear hfz11_3
          try clear hfz11_4
          try clear hfz11_5
          try clear hfz13_0
          try clear hfz13_1
          try clear hfz13_2
          try clear hfz13_3
          try clear hfz13_4
          try clear hfz13_5
          try clear hfz14_0
          try clear hfz14_1
          try clear hfz14_2
          try clear hfz14_3
          try clear hfz14_4
          try clear hfz14_5
          try clear hfz18_0
          try clear hfz18_1
          try clear hfz18_2
          try clear hfz18_3
          try clear hfz18_4
          try clear hfz18_5
          try clear hfz5_0
          try clear hfz5_1
          try clear hfz5_2
          try clear hfz5_3
          try clear hfz5_4
          try clear hfz5_5
          try clear hfz7_0
          try clear hfz7_1
          try clear hfz7_2
          try clear hfz7_3
          try clear hfz7_4
          try clear hfz7_5
          try clear hfz9_0
          try clear hfz9_1
          try clear hfz9_2
          try clear hfz9_3
          try clear hfz9_4
          try clear hfz9_5
          try clear p2
          obtain ⟨x40_2, x260000_2, x260001_2, rfl, HA, HK2, BK258, BK259, HB⟩ := hrel
          cases gk with
          | zero => exact absurd HA.out (by simp [image_goodDelta.l0])
          | succ k2 =>
            have H := HA.out
            clear HA
            simp only [image_goodDelta.l0] at H
            by_cases c19 : x40_2 < (l0_5.length : Int)
            · rw [if_pos c19] at H
              have c19b0 : decide (x40_2 < (l0_5.length : Int)) = true := decide_eq_true c19
              clear c19
              by_cases c20 : 0 ≤ x40_2
              · rw [if_pos c20] at H
                have c20b0 : decide (0 ≤ x40_2) = true := decide_eq_true c20
                clear c20
                by_cases c21 : x40_2 < (l0_5.length : Int)
                · rw [if_pos c21] at H
                  have c21b0 : decide (x40_2 < (l0_5.length : Int)) = true := decide_eq_true c21
                  clear c21
                  by_cases c22 : ((rd_T60 l0_5 x40_2).f0) < 1
                  · rw [if_pos c22] at H
                    have c22b0 : decide (((rd_T60 l0_5 x40_2).f0) < 1) = true := decide_eq_true c22
                    clear c22
                    obtain rfl := Option.some.inj H
                    have p260 : 0 ≤ (x40_2 : Int) := of_decide_eq_true (by first | (with_reducible assumption) | assumption)
                    have q260 : x40_2 < (l0_5.length : Int) := of_decide_eq_true (by first | (with_reducible assumption) | assumption)
                    obtain ⟨ad260, e260, hx260_0, hx260_1, hx260_2⟩ := at_T60 HR0_5.out x40_2 p260 q260
                    cases e260
                    replace hx260_0 := (HB.out.cell (World.block_lt_of_cell? w _ hx260_0)).trans hx260_0
                    replace hx260_1 := (HB.out.cell (World.block_lt_of_cell? w _ hx260_1)).trans hx260_1
                    replace hx260_2 := (HB.out.cell (World.block_lt_of_cell? w _ hx260_2)).trans hx260_2
                    replace p260 := eq_true p260
                    replace q260 := eq_true q260
                    go_wp2_with (first | ((with_reducible refine gate_dst (N := 5) rfl ?_); (try (refine gate_guard (by rfl) ?_; dsimp only)); refine box_event ?hg (N := 5) ?hd (cs := #[.int .u64 0, .int .u64 0, .string (⟨#[]⟩ : ByteArray)]) (t := 60) ?hr ?_; (case hd => rfl); (case hg => rfl); (case hr => first | (go_simp; done) | (go_simp; rfl)); intro gb261 hg w23 hbox hb; have n0_ := Aside0.mk (blk_below (g := gb258) (o := .cells #[.int .i64 a0_0, .int .u64 a0_1, .int .u64 a0_2, .slice A0_3 l0_3.length c0_3, .int .i64 a0_4, .slice (some ad260) l0_5.length c0_5] 46 (0, 0)) (by (with_reducible repeat (first | refine blk_drewN ?_ _ | refine blk_drew ?_ | refine blk_alloc ?_ _)); exact BK258.out) hb); have n1_ := Aside0.mk (blk_below (g := gb259) (o := .cells #[.int .u64 x260000_2, .string x260001_2] 121 (0, 0)) (by (with_reducible repeat (first | refine blk_drewN ?_ _ | refine blk_drew ?_ | refine blk_alloc ?_ _)); exact BK259.out) hb); have n2_ := Aside0.mk (below_step (by repeat (first | (with_reducible first | exact HB.out | apply below_alloc | apply pw_below_drewN | apply below_drew1 | refine below_set ?_ GE258.out | refine below_set ?_ GE259.out) | exact HB.out)) hb); have n3_ := Aside0.mk (hbox); have n4_ := Aside0.mk ((by rw [hg]; exact (below_size (by repeat (first | (with_reducible first | exact HB.out | apply below_alloc | apply pw_below_drewN | apply below_drew1 | refine below_set ?_ GE258.out | refine below_set ?_ GE259.out) | exact HB.out))) : w.heap.size ≤ gb261)); have n5_ := Aside0.mk ((by rw [hg]; exact (below_size (by repeat (first | (with_reducible first | exact HB.out | apply below_alloc | apply pw_below_drewN | apply below_drew1 | refine below_set ?_ GE258.out | refine below_set ?_ GE259.out) | exact HB.out))) : w.heap.size ≤ gb261)); have n6_ := Aside0.mk ((by rw [hg]; exact Nat.ne_of_lt (blk_lt (g := gb258) (o := .cells #[.int .i64 a0_0, .int .u64 a0_1, .int .u64 a0_2, .slice A0_3 l0_3.length c0_3, .int .i64 a0_4, .slice (some ad260) l0_5.length c0_5] 46 (0, 0)) (by (with_reducible repeat (first | refine blk_drewN ?_ _ | refine blk_drew ?_ | refine blk_alloc ?_ _)); exact BK258.out)) : gb258 ≠ gb261)); have n7_ := Aside0.mk ((by rw [hg]; exact Nat.ne_of_gt (blk_lt (g := gb258) (o := .cells #[.int .i64 a0_0, .int .u64 a0_1, .int .u64 a0_2, .slice A0_3 l0_3.length c0_3, .int .i64 a0_4, .slice (some ad260) l0_5.length c0_5] 46 (0, 0)) (by (with_reducible repeat (first | refine blk_drewN ?_ _ | refine blk_drew ?_ | refine blk_alloc ?_ _)); exact BK258.out)) : gb261 ≠ gb258)); have n8_ := Aside0.mk ((by rw [hg]; exact Nat.ne_of_lt (blk_lt (g := gb259) (o := .cells #[.int .u64 x260000_2, .string x260001_2] 121 (0, 0)) (by (with_reducible repeat (first | refine blk_drewN ?_ _ | refine blk_drew ?_ | refine blk_alloc ?_ _)); exact BK259.out)) : gb259 ≠ gb261)); have n9_ := Aside0.mk ((by rw [hg]; exact Nat.ne_of_gt (blk_lt (g := gb259) (o := .cells #[.int .u64 x260000_2, .string x260001_2] 121 (0, 0)) (by (with_reducible repeat (first | refine blk_drewN ?_ _ | refine blk_drew ?_ | refine blk_alloc ?_ _)); exact BK259.out)) : gb261 ≠ gb259)); clear BK258; clear BK259; clear HB; have BK258 := n0_; have BK259 := n1_; have HB := n2_; have BK261 := n3_; have GW261 := n4_; have GE261 := n5_; have NB258_261 := n6_; have NB261_258 := n7_; have NB259_261 := n8_; have NB261_259 := n9_; clear n0_ n1_ n2_ n3_ n4_ n5_ n6_ n7_ n8_ n9_; clear hb hbox hg; have hnb24 := NB261_258.out; have hnc24 := NB258_261.out; have hnb25 := NB261_259.out; have hnc25 := NB259_261.out; have hcz26_0 : w23.cell? ⟨gb261, 0, none⟩ = some (.int .u64 0) := (blk_cell BK261.out 0).trans rfl; have hcz26_1 : w23.cell? ⟨gb261, 1, none⟩ = some (.int .u64 0) := (blk_cell BK261.out 1).trans rfl; have hcz26_2 : w23.cell? ⟨gb261, 2, none⟩ = some (.string (⟨#[]⟩ : ByteArray)) := (blk_cell BK261.out 2).trans rfl; have hfz26_0 := blk_frozen BK261.out 0; have hfz26_1 := blk_frozen BK261.out 1; have hfz26_2 := blk_frozen BK261.out 2) | ((with_reducible refine gate_dst (N := 6) rfl ?_); (try (refine gate_guard (by rfl) ?_; dsimp only)); refine box_event ?hg (N := 6) ?hd (cs := #[.int .u64 0, .string (⟨#[]⟩ : ByteArray)]) (t := 121) ?hr ?_; (case hd => rfl); (case hg => rfl); (case hr => first | (go_simp; done) | (go_simp; rfl)); intro gb262 hg w27 hbox hb; have n0_ := Aside0.mk (blk_below (g := gb258) (o := .cells #[.int .i64 a0_0, .int .u64 a0_1, .int .u64 a0_2, .slice A0_3 l0_3.length c0_3, .int .i64 a0_4, .slice (some ad260) l0_5.length c0_5] 46 (0, 0)) (by (with_reducible repeat (first | refine blk_drewN ?_ _ | refine blk_drew ?_ | refine blk_alloc ?_ _)); refine blk_far ?_ NB258_261.out _; (with_reducible repeat (first | refine blk_drewN ?_ _ | refine blk_drew ?_ | refine blk_alloc ?_ _)); refine blk_far ?_ NB258_261.out _; (with_reducible repeat (first | refine blk_drewN ?_ _ | refine blk_drew ?_ | refine blk_alloc ?_ _)); refine blk_far ?_ NB258_261.out _; (with_reducible repeat (first | refine blk_drewN ?_ _ | refine blk_drew ?_ | refine blk_alloc ?_ _)); exact BK258.out) hb); have n1_ := Aside0.mk (blk_below (g := gb259) (o := .cells #[.int .u64 x260000_2, .string x260001_2] 121 (0, 0)) (by (with_reducible repeat (first | refine blk_drewN ?_ _ | refine blk_drew ?_ | refine blk_alloc ?_ _)); refine blk_far ?_ NB259_261.out _; (with_reducible repeat (first | refine blk_drewN ?_ _ | refine blk_drew ?_ | refine blk_alloc ?_ _)); refine blk_far ?_ NB259_261.out _; (with_reducible repeat (first | refine blk_drewN ?_ _ | refine blk_drew ?_ | refine blk_alloc ?_ _)); refine blk_far ?_ NB259_261.out _; (with_reducible repeat (first | refine blk_drewN ?_ _ | refine blk_drew ?_ | refine blk_alloc ?_ _)); exact BK259.out) hb); have n2_ := Aside0.mk (blk_below (g := gb261) (o := .cells #[.int .u64 ((rd_T60 l0_5 x40_2).f0), .int .u64 ((rd_T60 l0_5 x40_2).f1), .string ((rd_T60 l0_5 x40_2).f2)] 60 (0, 0)) (by (with_reducible repeat (first | refine blk_drewN ?_ _ | refine blk_drew ?_ | refine blk_alloc ?_ _)); refine blk_put (cs := #[.int .u64 ((rd_T60 l0_5 x40_2).f0), .int .u64 ((rd_T60 l0_5 x40_2).f1), .string (⟨#[]⟩ : ByteArray)]) ?_ 2 _ rfl; (with_reducible repeat (first | refine blk_drewN ?_ _ | refine blk_drew ?_ | refine blk_alloc ?_ _)); refine blk_put (cs := #[.int .u64 ((rd_T60 l0_5 x40_2).f0), .int .u64 0, .string (⟨#[]⟩ : ByteArray)]) ?_ 1 _ rfl; (with_reducible repeat (first | refine blk_drewN ?_ _ | refine blk_drew ?_ | refine blk_alloc ?_ _)); refine blk_put (cs := #[.int .u64 0, .int .u64 0, .string (⟨#[]⟩ : ByteArray)]) ?_ 0 _ rfl; (with_reducible repeat (first | refine blk_drewN ?_ _ | refine blk_drew ?_ | refine blk_alloc ?_ _)); exact BK261.out) hb); have n3_ := Aside0.mk (below_step (by repeat (first | (with_reducible first | exact HB.out | apply below_alloc | apply pw_below_drewN | apply below_drew1 | refine below_set ?_ GE258.out | refine below_set ?_ GE259.out | refine below_set ?_ GE261.out) | exact HB.out)) hb); have n4_ := Aside0.mk (hbox); have n5_ := Aside0.mk ((by rw [hg]; exact (below_size (by repeat (first | (with_reducible first | exact HB.out | apply below_alloc | apply pw_below_drewN | apply below_drew1 | refine below_set ?_ GE258.out | refine below_set ?_ GE259.out | refine below_set ?_ GE261.out) | exact HB.out))) : w.heap.size ≤ gb262)); have n6_ := Aside0.mk ((by rw [hg]; exact (below_size (by repeat (first | (with_reducible first | exact HB.out | apply below_alloc | apply pw_below_drewN | apply below_drew1 | refine below_set ?_ GE258.out | refine below_set ?_ GE259.out | refine below_set ?_ GE261.out) | exact HB.out))) : w.heap.size ≤ gb262)); have n7_ := Aside0.mk ((by rw [hg]; exact Nat.ne_of_lt (blk_lt (g := gb258) (o := .cells #[.int .i64 a0_0, .int .u64 a0_1, .int .u64 a0_2, .slice A0_3 l0_3.length c0_3, .int .i64 a0_4, .slice (some ad260) l0_5.length c0_5] 46 (0, 0)) (by (with_reducible repeat (first | refine blk_drewN ?_ _ | refine blk_drew ?_ | refine blk_alloc ?_ _)); refine blk_far ?_ NB258_261.out _; (with_reducible repeat (first | refine blk_drewN ?_ _ | refine blk_drew ?_ | refine blk_alloc ?_ _)); refine blk_far ?_ NB258_261.out _; (with_reducible repeat (first | refine blk_drewN ?_ _ | refine blk_drew ?_ | refine blk_alloc ?_ _)); refine blk_far ?_ NB258_261.out _; (with_reducible repeat (first | refine blk_drewN ?_ _ | refine blk_drew ?_ | refine blk_alloc ?_ _)); exact BK258.out)) : gb258 ≠ gb262)); have n8_ := Aside0.mk ((by rw [hg]; exact Nat.ne_of_gt (blk_lt (g := gb258) (o := .cells #[.int .i64 a0_0, .int .u64 a0_1, .int .u64 a0_2, .slice A0_3 l0_3.length c0_3, .int .i64 a0_4, .slice (some ad260) l0_5.length c0_5] 46 (0, 0)) (by (with_reducible repeat (first | refine blk_drewN ?_ _ | refine blk_drew ?_ | refine blk_alloc ?_ _)); refine blk_far ?_ NB258_261.out _; (with_reducible repeat (first | refine blk_drewN ?_ _ | refine blk_drew ?_ | refine blk_alloc ?_ _)); refine blk_far ?_ NB258_261.out _; (with_reducible repeat (first | refine blk_drewN ?_ _ | refine blk_drew ?_ | refine blk_alloc ?_ _)); refine blk_far ?_ NB258_261.out _; (with_reducible repeat (first | refine blk_drewN ?_ _ | refine blk_drew ?_ | refine blk_alloc ?_ _)); exact BK258.out)) : gb262 ≠ gb258)); have n9_ := Aside0.mk ((by rw [hg]; exact Nat.ne_of_lt (blk_lt (g := gb259) (o := .cells #[.int .u64 x260000_2, .string x260001_2] 121 (0, 0)) (by (with_reducible repeat (first | refine blk_drewN ?_ _ | refine blk_drew ?_ | refine blk_alloc ?_ _)); refine blk_far ?_ NB259_261.out _; (with_reducible repeat (first | refine blk_drewN ?_ _ | refine blk_drew ?_ | refine blk_alloc ?_ _)); refine blk_far ?_ NB259_261.out _; (with_reducible repeat (first | refine blk_drewN ?_ _ | refine blk_drew ?_ | refine blk_alloc ?_ _)); refine blk_far ?_ NB259_261.out _; (with_reducible repeat (first | refine blk_drewN ?_ _ | refine blk_drew ?_ | refine blk_alloc ?_ _)); exact BK259.out)) : gb259 ≠ gb262)); have n10_ := Aside0.mk ((by rw [hg]; exact Nat.ne_of_gt (blk_lt (g := gb259) (o := .cells #[.int .u64 x260000_2, .string x260001_2] 121 (0, 0)) (by (with_reducible repeat (first | refine blk_drewN ?_ _ | refine blk_drew ?_ | refine blk_alloc ?_ _)); refine blk_far ?_ NB259_261.out _; (with_reducible repeat (first | refine blk_drewN ?_ _ | refine blk_drew ?_ | refine blk_alloc ?_ _)); refine blk_far ?_ NB259_261.out _; (with_reducible repeat (first | refine blk_drewN ?_ _ | refine blk_drew ?_ | refine blk_alloc ?_ _)); refine blk_far ?_ NB259_261.out _; (with_reducible repeat (first | refine blk_drewN ?_ _ | refine blk_drew ?_ | refine blk_alloc ?_ _)); exact BK259.out)) : gb262 ≠ gb259)); have n11_ := Aside0.mk ((by rw [hg]; exact Nat.ne_of_lt (blk_lt (g := gb261) (o := .cells #[.int .u64 ((rd_T60 l0_5 x40_2).f0), .int .u64 ((rd_T60 l0_5 x40_2).f1), .string ((rd_T60 l0_5 x40_2).f2)] 60 (0, 0)) (by (with_reducible repeat (first | refine blk_drewN ?_ _ | refine blk_drew ?_ | refine blk_alloc ?_ _)); refine blk_put (cs := #[.int .u64 ((rd_T60 l0_5 x40_2).f0), .int .u64 ((rd_T60 l0_5 x40_2).f1), .string (⟨#[]⟩ : ByteArray)]) ?_ 2 _ rfl; (with_reducible repeat (first | refine blk_drewN ?_ _ | refine blk_drew ?_ | refine blk_alloc ?_ _)); refine blk_put (cs := #[.int .u64 ((rd_T60 l0_5 x40_2).f0), .int .u64 0, .string (⟨#[]⟩ : ByteArray)]) ?_ 1 _ rfl; (with_reducible repeat (first | refine blk_drewN ?_ _ | refine blk_drew ?_ | refine blk_alloc ?_ _)); refine blk_put (cs := #[.int .u64 0, .int .u64 0, .string (⟨#[]⟩ : ByteArray)]) ?_ 0 _ rfl; (with_reducible repeat (first | refine blk_drewN ?_ _ | refine blk_drew ?_ | refine blk_alloc ?_ _)); exact BK261.out)) : gb261 ≠ gb262)); have n12_ := Aside0.mk ((by rw [hg]; exact Nat.ne_of_gt (blk_lt (g := gb261) (o := .cells #[.int .u64 ((rd_T60 l0_5 x40_2).f0), .int .u64 ((rd_T60 l0_5 x40_2).f1), .string ((rd_T60 l0_5 x40_2).f2)] 60 (0, 0)) (by (with_reducible repeat (first | refine blk_drewN ?_ _ | refine blk_drew ?_ | refine blk_alloc ?_ _)); refine blk_put (cs := #[.int .u64 ((rd_T60 l0_5 x40_2).f0), .int .u64 ((rd_T60 l0_5 x40_2).f1), .string (⟨#[]⟩ : ByteArray)]) ?_ 2 _ rfl; (with_reducible repeat (first | refine blk_drewN ?_ _ | refine blk_drew ?_ | refine blk_alloc ?_ _)); refine blk_put (cs := #[.int .u64 ((rd_T60 l0_5 x40_2).f0), .int .u64 0, .string (⟨#[]⟩ : ByteArray)]) ?_ 1 _ rfl; (with_reducible repeat (first | refine blk_drewN ?_ _ | refine blk_drew ?_ | refine blk_alloc ?_ _)); refine blk_put (cs := #[.int .u64 0, .int .u64 0, .string (⟨#[]⟩ : ByteArray)]) ?_ 0 _ rfl; (with_reducible repeat (first | refine blk_drewN ?_ _ | refine blk_drew ?_ | refine blk_alloc ?_ _)); exact BK261.out)) : gb262 ≠ gb261)); clear BK258; clear BK259; clear BK261; clear HB; have BK258 := n0_; have BK259 := n1_; have BK261 := n2_; have HB := n3_; have BK262 := n4_; have GW262 := n5_; have GE262 := n6_; have NB258_262 := n7_; have NB262_258 := n8_; have NB259_262 := n9_; have NB262_259 := n10_; have NB261_262 := n11_; have NB262_261 := n12_; clear n0_ n1_ n2_ n3_ n4_ n5_ n6_ n7_ n8_ n9_ n10_ n11_ n12_; clear hb hbox hg; have hnb28 := NB262_258.out; have hnc28 := NB258_262.out; have hnb29 := NB262_259.out; have hnc29 := NB259_262.out; have hnb30 := NB262_261.out; have hnc30 := NB261_262.out; have hcz31_0 : w27.cell? ⟨gb262, 0, none⟩ = some (.int .u64 0) := (blk_cell BK262.out 0).trans rfl; have hcz31_1 : w27.cell? ⟨gb262, 1, none⟩ = some (.string (⟨#[]⟩ : ByteArray)) := (blk_cell BK262.out 1).trans rfl; have hfz31_0 := blk_frozen BK262.out 0; have hfz31_1 := blk_frozen BK262.out 1; have hcz32_0 : w27.cell? ⟨gb261, 0, none⟩ = some (.int .u64 ((rd_T60 l0_5 x40_2).f0)) := (blk_cell BK261.out 0).trans rfl; have hcz32_1 : w27.cell? ⟨gb261, 1, none⟩ = some (.int .u64 ((rd_T60 l0_5 x40_2).f1)) := (blk_cell BK261.out 1).trans rfl; have hcz32_2 : w27.cell? ⟨gb261, 2, none⟩ = some (.string ((rd_T60 l0_5 x40_2).f2)) := (blk_cell BK261.out 2).trans rfl; have hfz32_0 := blk_frozen BK261.out 0; have hfz32_1 := blk_frozen BK261.out 1; have hfz32_2 := blk_frozen BK261.out 2))
                    go_ret
                    exact ⟨by first | rfl | (simp [errW_none, errW_some] <;> rfl) | (simp [*, errW_none, errW_some] <;> rfl), by repeat (first | (with_reducible first | exact HB.out | apply below_alloc | apply pw_below_drewN | apply below_drew1 | refine below_set ?_ GE258.out | refine below_set ?_ GE259.out | refine below_set ?_ GE261.out | refine below_set ?_ GE262.out) | exact HB.out)⟩
                  · rw [if_neg c22] at H
                    have c22b0 : decide (((rd_T60 l0_5 x40_2).f0) < 1) = false := decide_eq_false c22
                    clear c22
                    by_cases c33 : ((rd_T60 l0_5 x40_2).f1) ≤ ((rd_T60 l0_5 x40_2).f0)
                    · rw [if_pos c33] at H
                      have c33b0 : decide (((rd_T60 l0_5 x40_2).f1) ≤ ((rd_T60 l0_5 x40_2).f0)) = true := decide_eq_true c33
                      clear c33
                      obtain rfl := Option.some.inj H
                      have p260 : 0 ≤ (x40_2 : Int) := of_decide_eq_true (by first | (with_reducible assumption) | assumption)
                      have q260 : x40_2 < (l0_5.length : Int) := of_decide_eq_true (by first | (with_reducible assumption) | assumption)
                      obtain ⟨ad260, e260, hx260_0, hx260_1, hx260_2⟩ := at_T60 HR0_5.out x40_2 p260 q260
                      cases e260
                      replace hx260_0 := (HB.out.cell (World.block_lt_of_cell? w _ hx260_0)).trans hx260_0
                      replace hx260_1 := (HB.out.cell (World.block_lt_of_cell? w _ hx260_1)).trans hx260_1
                      replace hx260_2 := (HB.out.cell (World.block_lt_of_cell? w _ hx260_2)).trans hx260_2
                      replace p260 := eq_true p260
                      replace q260 := eq_true q260
                      go_wp2_with (first | ((with_reducible refine gate_dst (N := 5) rfl ?_); (try (refine gate_guard (by rfl) ?_; dsimp only)); refine box_event ?hg (N := 5) ?hd (cs := #[.int .u64 0, .int .u64 0, .string (⟨#[]⟩ : ByteArray)]) (t := 60) ?hr ?_; (case hd => rfl); (case hg => rfl); (case hr => first | (go_simp; done) | (go_simp; rfl)); intro gb261 hg w34 hbox hb; have n0_ := Aside0.mk (blk_below (g := gb258) (o := .cells #[.int .i64 a0_0, .int .u64 a0_1, .int .u64 a0_2, .slice A0_3 l0_3.length c0_3, .int .i64 a0_4, .slice (some ad260) l0_5.length c0_5] 46 (0, 0)) (by (with_reducible repeat (first | refine blk_drewN ?_ _ | refine blk_drew ?_ | refine blk_alloc ?_ _)); exact BK258.out) hb); have n1_ := Aside0.mk (blk_below (g := gb259) (o := .cells #[.int .u64 x260000_2, .string x260001_2] 121 (0, 0)) (by (with_reducible repeat (first | refine blk_drewN ?_ _ | refine blk_drew ?_ | refine blk_alloc ?_ _)); exact BK259.out) hb); have n2_ := Aside0.mk (below_step (by repeat (first | (with_reducible first | exact HB.out | apply below_alloc | apply pw_below_drewN | apply below_drew1 | refine below_set ?_ GE258.out | refine below_set ?_ GE259.out) | exact HB.out)) hb); have n3_ := Aside0.mk (hbox); have n4_ := Aside0.mk ((by rw [hg]; exact (below_size (by repeat (first | (with_reducible first | exact HB.out | apply below_alloc | apply pw_below_drewN | apply below_drew1 | refine below_set ?_ GE258.out | refine below_set ?_ GE259.out) | exact HB.out))) : w.heap.size ≤ gb261)); have n5_ := Aside0.mk ((by rw [hg]; exact (below_size (by repeat (first | (with_reducible first | exact HB.out | apply below_alloc | apply pw_below_drewN | apply below_drew1 | refine below_set ?_ GE258.out | refine below_set ?_ GE259.out) | exact HB.out))) : w.heap.size ≤ gb261)); have n6_ := Aside0.mk ((by rw [hg]; exact Nat.ne_of_lt (blk_lt (g := gb258) (o := .cells #[.int .i64 a0_0, .int .u64 a0_1, .int .u64 a0_2, .slice A0_3 l0_3.length c0_3, .int .i64 a0_4, .slice (some ad260) l0_5.length c0_5] 46 (0, 0)) (by (with_reducible repeat (first | refine blk_drewN ?_ _ | refine blk_drew ?_ | refine blk_alloc ?_ _)); exact BK258.out)) : gb258 ≠ gb261)); have n7_ := Aside0.mk ((by rw [hg]; exact Nat.ne_of_gt (blk_lt (g := gb258) (o := .cells #[.int .i64 a0_0, .int .u64 a0_1, .int .u64 a0_2, .slice A0_3 l0_3.length c0_3, .int .i64 a0_4, .slice (some ad260) l0_5.length c0_5] 46 (0, 0)) (by (with_reducible repeat (first | refine blk_drewN ?_ _ | refine blk_drew ?_ | refine blk_alloc ?_ _)); exact BK258.out)) : gb261 ≠ gb258)); have n8_ := Aside0.mk ((by rw [hg]; exact Nat.ne_of_lt (blk_lt (g := gb259) (o := .cells #[.int .u64 x260000_2, .string x260001_2] 121 (0, 0)) (by (with_reducible repeat (first | refine blk_drewN ?_ _ | refine blk_drew ?_ | refine blk_alloc ?_ _)); exact BK259.out)) : gb259 ≠ gb261)); have n9_ := Aside0.mk ((by rw [hg]; exact Nat.ne_of_gt (blk_lt (g := gb259) (o := .cells #[.int .u64 x260000_2, .string x260001_2] 121 (0, 0)) (by (with_reducible repeat (first | refine blk_drewN ?_ _ | refine blk_drew ?_ | refine blk_alloc ?_ _)); exact BK259.out)) : gb261 ≠ gb259)); clear BK258; clear BK259; clear HB; have BK258 := n0_; have BK259 := n1_; have HB := n2_; have BK261 := n3_; have GW261 := n4_; have GE261 := n5_; have NB258_261 := n6_; have NB261_258 := n7_; have NB259_261 := n8_; have NB261_259 := n9_; clear n0_ n1_ n2_ n3_ n4_ n5_ n6_ n7_ n8_ n9_; clear hb hbox hg; have hnb35 := NB261_258.out; have hnc35 := NB258_261.out; have hnb36 := NB261_259.out; have hnc36 := NB259_261.out; have hcz37_0 : w34.cell? ⟨gb261, 0, none⟩ = some (.int .u64 0) := (blk_cell BK261.out 0).trans rfl; have hcz37_1 : w34.cell? ⟨gb261, 1, none⟩ = some (.int .u64 0) := (blk_cell BK261.out 1).trans rfl; have hcz37_2 : w34.cell? ⟨gb261, 2, none⟩ = some (.string (⟨#[]⟩ : ByteArray)) := (blk_cell BK261.out 2).trans rfl; have hfz37_0 := blk_frozen BK261.out 0; have hfz37_1 := blk_frozen BK261.out 1; have hfz37_2 := blk_frozen BK261.out 2) | ((with_reducible refine gate_dst (N := 6) rfl ?_); (try (refine gate_guard (by rfl) ?_; dsimp only)); refine box_event ?hg (N := 6) ?hd (cs := #[.int .u64 0, .string (⟨#[]⟩ : ByteArray)]) (t := 121) ?hr ?_; (case hd => rfl); (case hg => rfl); (case hr => first | (go_simp; done) | (go_simp; rfl)); intro gb262 hg w38 hbox hb; have n0_ := Aside0.mk (blk_below (g := gb258) (o := .cells #[.int .i64 a0_0, .int .u64 a0_1, .int .u64 a0_2, .slice A0_3 l0_3.length c0_3, .int .i64 a0_4, .slice (some ad260) l0_5.length c0_5] 46 (0, 0)) (by (with_reducible repeat (first | refine blk_drewN ?_ _ | refine blk_drew ?_ | refine blk_alloc ?_ _)); refine blk_far ?_ NB258_261.out _; (with_reducible repeat (first | refine blk_drewN ?_ _ | refine blk_drew ?_ | refine blk_alloc ?_ _)); refine blk_far ?_ NB258_261.out _; (with_reducible repeat (first | refine blk_drewN ?_ _ | refine blk_drew ?_ | refine blk_alloc ?_ _)); refine blk_far ?_ NB258_261.out _; (with_reducible repeat (first | refine blk_drewN ?_ _ | refine blk_drew ?_ | refine blk_alloc ?_ _)); exact BK258.out) hb); have n1_ := Aside0.mk (blk_below (g := gb259) (o := .cells #[.int .u64 x260000_2, .string x260001_2] 121 (0, 0)) (by (with_reducible repeat (first | refine blk_drewN ?_ _ | refine blk_drew ?_ | refine blk_alloc ?_ _)); refine blk_far ?_ NB259_261.out _; (with_reducible repeat (first | refine blk_drewN ?_ _ | refine blk_drew ?_ | refine blk_alloc ?_ _)); refine blk_far ?_ NB259_261.out _; (with_reducible repeat (first | refine blk_drewN ?_ _ | refine blk_drew ?_ | refine blk_alloc ?_ _)); refine blk_far ?_ NB259_261.out _; (with_reducible repeat (first | refine blk_drewN ?_ _ | refine blk_drew ?_ | refine blk_alloc ?_ _)); exact BK259.out) hb); have n2_ := Aside0.mk (blk_below (g := gb261) (o := .cells #[.int .u64 ((rd_T60 l0_5 x40_2).f0), .int .u64 ((rd_T60 l0_5 x40_2).f1), .string ((rd_T60 l0_5 x40_2).f2)] 60 (0, 0)) (by (with_reducible repeat (first | refine blk_drewN ?_ _ | refine blk_drew ?_ | refine blk_alloc ?_ _)); refine blk_put (cs := #[.int .u64 ((rd_T60 l0_5 x40_2).f0), .int .u64 ((rd_T60 l0_5 x40_2).f1), .string (⟨#[]⟩ : ByteArray)]) ?_ 2 _ rfl; (with_reducible repeat (first | refine blk_drewN ?_ _ | refine blk_drew ?_ | refine blk_alloc ?_ _)); refine blk_put (cs := #[.int .u64 ((rd_T60 l0_5 x40_2).f0), .int .u64 0, .string (⟨#[]⟩ : ByteArray)]) ?_ 1 _ rfl; (with_reducible repeat (first | refine blk_drewN ?_ _ | refine blk_drew ?_ | refine blk_alloc ?_ _)); refine blk_put (cs := #[.int .u64 0, .int .u64 0, .string (⟨#[]⟩ : ByteArray)]) ?_ 0 _ rfl; (with_reducible repeat (first | refine blk_drewN ?_ _ | refine blk_drew ?_ | refine blk_alloc ?_ _)); exact BK261.out) hb); have n3_ := Aside0.mk (below_step (by repeat (first | (with_reducible first | exact HB.out | apply below_alloc | apply pw_below_drewN | apply below_drew1 | refine below_set ?_ GE258.out | refine below_set ?_ GE259.out | refine below_set ?_ GE261.out) | exact HB.out)) hb); have n4_ := Aside0.mk (hbox); have n5_ := Aside0.mk ((by rw [hg]; exact (below_size (by repeat (first | (with_reducible first | exact HB.out | apply below_alloc | apply pw_below_drewN | apply below_drew1 | refine below_set ?_ GE258.out | refine below_set ?_ GE259.out | refine below_set ?_ GE261.out) | exact HB.out))) : w.heap.size ≤ gb262)); have n6_ := Aside0.mk ((by rw [hg]; exact (below_size (by repeat (first | (with_reducible first | exact HB.out | apply below_alloc | apply pw_below_drewN | apply below_drew1 | refine below_set ?_ GE258.out | refine below_set ?_ GE259.out | refine below_set ?_ GE261.out) | exact HB.out))) : w.heap.size ≤ gb262)); have n7_ := Aside0.mk ((by rw [hg]; exact Nat.ne_of_lt (blk_lt (g := gb258) (o := .cells #[.int .i64 a0_0, .int .u64 a0_1, .int .u64 a0_2, .slice A0_3 l0_3.length c0_3, .int .i64 a0_4, .slice (some ad260) l0_5.length c0_5] 46 (0, 0)) (by (with_reducible repeat (first | refine blk_drewN ?_ _ | refine blk_drew ?_ | refine blk_alloc ?_ _)); refine blk_far ?_ NB258_261.out _; (with_reducible repeat (first | refine blk_drewN ?_ _ | refine blk_drew ?_ | refine blk_alloc ?_ _)); refine blk_far ?_ NB258_261.out _; (with_reducible repeat (first | refine blk_drewN ?_ _ | refine blk_drew ?_ | refine blk_alloc ?_ _)); refine blk_far ?_ NB258_261.out _; (with_reducible repeat (first | refine blk_drewN ?_ _ | refine blk_drew ?_ | refine blk_alloc ?_ _)); exact BK258.out)) : gb258 ≠ gb262)); have n8_ := Aside0.mk ((by rw [hg]; exact Nat.ne_of_gt (blk_lt (g := gb258) (o := .cells #[.int .i64 a0_0, .int .u64 a0_1, .int .u64 a0_2, .slice A0_3 l0_3.length c0_3, .int .i64 a0_4, .slice (some ad260) l0_5.length c0_5] 46 (0, 0)) (by (with_reducible repeat (first | refine blk_drewN ?_ _ | refine blk_drew ?_ | refine blk_alloc ?_ _)); refine blk_far ?_ NB258_261.out _; (with_reducible repeat (first | refine blk_drewN ?_ _ | refine blk_drew ?_ | refine blk_alloc ?_ _)); refine blk_far ?_ NB258_261.out _; (with_reducible repeat (first | refine blk_drewN ?_ _ | refine blk_drew ?_ | refine blk_alloc ?_ _)); refine blk_far ?_ NB258_261.out _; (with_reducible repeat (first | refine blk_drewN ?_ _ | refine blk_drew ?_ | refine blk_alloc ?_ _)); exact BK258.out)) : gb262 ≠ gb258)); have n9_ := Aside0.mk ((by rw [hg]; exact Nat.ne_of_lt (blk_lt (g := gb259) (o := .cells #[.int .u64 x260000_2, .string x260001_2] 121 (0, 0)) (by (with_reducible repeat (first | refine blk_drewN ?_ _ | refine blk_drew ?_ | refine blk_alloc ?_ _)); refine blk_far ?_ NB259_261.out _; (with_reducible repeat (first | refine blk_drewN ?_ _ | refine blk_drew ?_ | refine blk_alloc ?_ _)); refine blk_far ?_ NB259_261.out _; (with_reducible repeat (first | refine blk_drewN ?_ _ | refine blk_drew ?_ | refine blk_alloc ?_ _)); refine blk_far ?_ NB259_261.out _; (with_reducible repeat (first | refine blk_drewN ?_ _ | refine blk_drew ?_ | refine blk_alloc ?_ _)); exact BK259.out)) : gb259 ≠ gb262)); have n10_ := Aside0.mk ((by rw [hg]; exact Nat.ne_of_gt (blk_lt (g := gb259) (o := .cells #[.int .u64 x260000_2, .string x260001_2] 121 (0, 0)) (by (with_reducible repeat (first | refine blk_drewN ?_ _ | refine blk_drew ?_ | refine blk_alloc ?_ _)); refine blk_far ?_ NB259_261.out _; (with_reducible repeat (first | refine blk_drewN ?_ _ | refine blk_drew ?_ | refine blk_alloc ?_ _)); refine blk_far ?_ NB259_261.out _; (with_reducible repeat (first | refine blk_drewN ?_ _ | refine blk_drew ?_ | refine blk_alloc ?_ _)); refine blk_far ?_ NB259_261.out _; (with_reducible repeat (first | refine blk_drewN ?_ _ | refine blk_drew ?_ | refine blk_alloc ?_ _)); exact BK259.out)) : gb262 ≠ gb259)); have n11_ := Aside0.mk ((by rw [hg]; exact Nat.ne_of_lt (blk_lt (g := gb261) (o := .cells #[.int .u64 ((rd_T60 l0_5 x40_2).f0), .int .u64 ((rd_T60 l0_5 x40_2).f1), .string ((rd_T60 l0_5 x40_2).f2)] 60 (0, 0)) (by (with_reducible repeat (first | refine blk_drewN ?_ _ | refine blk_drew ?_ | refine blk_alloc ?_ _)); refine blk_put (cs := #[.int .u64 ((rd_T60 l0_5 x40_2).f0), .int .u64 ((rd_T60 l0_5 x40_2).f1), .string (⟨#[]⟩ : ByteArray)]) ?_ 2 _ rfl; (with_reducible repeat (first | refine blk_drewN ?_ _ | refine blk_drew ?_ | refine blk_alloc ?_ _)); refine blk_put (cs := #[.int .u64 ((rd_T60 l0_5 x40_2).f0), .int .u64 0, .string (⟨#[]⟩ : ByteArray)]) ?_ 1 _ rfl; (with_reducible repeat (first | refine blk_drewN ?_ _ | refine blk_drew ?_ | refine blk_alloc ?_ _)); refine blk_put (cs := #[.int .u64 0, .int .u64 0, .string (⟨#[]⟩ : ByteArray)]) ?_ 0 _ rfl; (with_reducible repeat (first | refine blk_drewN ?_ _ | refine blk_drew ?_ | refine blk_alloc ?_ _)); exact BK261.out)) : gb261 ≠ gb262)); have n12_ := Aside0.mk ((by rw [hg]; exact Nat.ne_of_gt (blk_lt (g := gb261) (o := .cells #[.int .u64 ((rd_T60 l0_5 x40_2).f0), .int .u64 ((rd_T60 l0_5 x40_2).f1), .string ((rd_T60 l0_5 x40_2).f2)] 60 (0, 0)) (by (with_reducible repeat (first | refine blk_drewN ?_ _ | refine blk_drew ?_ | refine blk_alloc ?_ _)); refine blk_put (cs := #[.int .u64 ((rd_T60 l0_5 x40_2).f0), .int .u64 ((rd_T60 l0_5 x40_2).f1), .string (⟨#[]⟩ : ByteArray)]) ?_ 2 _ rfl; (with_reducible repeat (first | refine blk_drewN ?_ _ | refine blk_drew ?_ | refine blk_alloc ?_ _)); refine blk_put (cs := #[.int .u64 ((rd_T60 l0_5 x40_2).f0), .int .u64 0, .string (⟨#[]⟩ : ByteArray)]) ?_ 1 _ rfl; (with_reducible repeat (first | refine blk_drewN ?_ _ | refine blk_drew ?_ | refine blk_alloc ?_ _)); refine blk_put (cs := #[.int .u64 0, .int .u64 0, .string (⟨#[]⟩ : ByteArray)]) ?_ 0 _ rfl; (with_reducible repeat (first | refine blk_drewN ?_ _ | refine blk_drew ?_ | refine blk_alloc ?_ _)); exact BK261.out)) : gb262 ≠ gb261)); clear BK258; clear BK259; clear BK261; clear HB; have BK258 := n0_; have BK259 := n1_; have BK261 := n2_; have HB := n3_; have BK262 := n4_; have GW262 := n5_; have GE262 := n6_; have NB258_262 := n7_; have NB262_258 := n8_; have NB259_262 := n9_; have NB262_259 := n10_; have NB261_262 := n11_; have NB262_261 := n12_; clear n0_ n1_ n2_ n3_ n4_ n5_ n6_ n7_ n8_ n9_ n10_ n11_ n12_; clear hb hbox hg; have hnb39 := NB262_258.out; have hnc39 := NB258_262.out; have hnb40 := NB262_259.out; have hnc40 := NB259_262.out; have hnb41 := NB262_261.out; have hnc41 := NB261_262.out; have hcz42_0 : w38.cell? ⟨gb262, 0, none⟩ = some (.int .u64 0) := (blk_cell BK262.out 0).trans rfl; have hcz42_1 : w38.cell? ⟨gb262, 1, none⟩ = some (.string (⟨#[]⟩ : ByteArray)) := (blk_cell BK262.out 1).trans rfl; have hfz42_0 := blk_frozen BK262.out 0; have hfz42_1 := blk_frozen BK262.out 1; have hcz43_0 : w38.cell? ⟨gb261, 0, none⟩ = some (.int .u64 ((rd_T60 l0_5 x40_2).f0)) := (blk_cell BK261.out 0).trans rfl; have hcz43_1 : w38.cell? ⟨gb261, 1, none⟩ = some (.int .u64 ((rd_T60 l0_5 x40_2).f1)) := (blk_cell BK261.out 1).trans rfl; have hcz43_2 : w38.cell? ⟨gb261, 2, none⟩ = some (.string ((rd_T60 l0_5 x40_2).f2)) := (blk_cell BK261.out 2).trans rfl; have hfz43_0 := blk_frozen BK261.out 0; have hfz43_1 := blk_frozen BK261.out 1; have hfz43_2 := blk_frozen BK261.out 2))
                      go_ret
                      exact ⟨by first | rfl | (simp [errW_none, errW_some] <;> rfl) | (simp [*, errW_none, errW_some] <;> rfl), by repeat (first | (with_reducible first | exact HB.out | apply below_alloc | apply pw_below_drewN | apply below_drew1 | refine below_set ?_ GE258.out | refine below_set ?_ GE259.out | refine below_set ?_ GE261.out | refine below_set ?_ GE262.out) | exact HB.out)⟩
                    · rw [if_neg c33] at H
                      have c33b0 : decide (((rd_T60 l0_5 x40_2).f1) ≤ ((rd_T60 l0_5 x40_2).f0)) = false := decide_eq_false c33
                      clear c33
                      by_cases c44 : ((rd_T60 l0_5 x40_2).f1) > 4611686018427387903
                      · rw [if_pos c44] at H
                        have c44b0 : decide (4611686018427387903 < ((rd_T60 l0_5 x40_2).f1)) = true := decide_eq_true c44
                        clear c44
                        obtain rfl := Option.some.inj H
                        have p260 : 0 ≤ (x40_2 : Int) := of_decide_eq_true (by first | (with_reducible assumption) | assumption)
                        have q260 : x40_2 < (l0_5.length : Int) := of_decide_eq_true (by first | (with_reducible assumption) | assumption)
                        obtain ⟨ad260, e260, hx260_0, hx260_1, hx260_2⟩ := at_T60 HR0_5.out x40_2 p260 q260
                        cases e260
                        replace hx260_0 := (HB.out.cell (World.block_lt_of_cell? w _ hx260_0)).trans hx260_0
                        replace hx260_1 := (HB.out.cell (World.block_lt_of_cell? w _ hx260_1)).trans hx260_1
                        replace hx260_2 := (HB.out.cell (World.block_lt_of_cell? w _ hx260_2)).trans hx260_2
                        replace p260 := eq_true p260
                        replace q260 := eq_true q260
                        go_wp2_with (first | ((with_reducible refine gate_dst (N := 5) rfl ?_); (try (refine gate_guard (by rfl) ?_; dsimp only)); refine box_event ?hg (N := 5) ?hd (cs := #[.int .u64 0, .int .u64 0, .string (⟨#[]⟩ : ByteArray)]) (t := 60) ?hr ?_; (case hd => rfl); (case hg => rfl); (case hr => first | (go_simp; done) | (go_simp; rfl)); intro gb261 hg w45 hbox hb; have n0_ := Aside0.mk (blk_below (g := gb258) (o := .cells #[.int .i64 a0_0, .int .u64 a0_1, .int .u64 a0_2, .slice A0_3 l0_3.length c0_3, .int .i64 a0_4, .slice (some ad260) l0_5.length c0_5] 46 (0, 0)) (by (with_reducible repeat (first | refine blk_drewN ?_ _ | refine blk_drew ?_ | refine blk_alloc ?_ _)); exact BK258.out) hb); have n1_ := Aside0.mk (blk_below (g := gb259) (o := .cells #[.int .u64 x260000_2, .string x260001_2] 121 (0, 0)) (by (with_reducible repeat (first | refine blk_drewN ?_ _ | refine blk_drew ?_ | refine blk_alloc ?_ _)); exact BK259.out) hb); have n2_ := Aside0.mk (below_step (by repeat (first | (with_reducible first | exact HB.out | apply below_alloc | apply pw_below_drewN | apply below_drew1 | refine below_set ?_ GE258.out | refine below_set ?_ GE259.out) | exact HB.out)) hb); have n3_ := Aside0.mk (hbox); have n4_ := Aside0.mk ((by rw [hg]; exact (below_size (by repeat (first | (with_reducible first | exact HB.out | apply below_alloc | apply pw_below_drewN | apply below_drew1 | refine below_set ?_ GE258.out | refine below_set ?_ GE259.out) | exact HB.out))) : w.heap.size ≤ gb261)); have n5_ := Aside0.mk ((by rw [hg]; exact (below_size (by repeat (first | (with_reducible first | exact HB.out | apply below_alloc | apply pw_below_drewN | apply below_drew1 | refine below_set ?_ GE258.out | refine below_set ?_ GE259.out) | exact HB.out))) : w.heap.size ≤ gb261)); have n6_ := Aside0.mk ((by rw [hg]; exact Nat.ne_of_lt (blk_lt (g := gb258) (o := .cells #[.int .i64 a0_0, .int .u64 a0_1, .int .u64 a0_2, .slice A0_3 l0_3.length c0_3, .int .i64 a0_4, .slice (some ad260) l0_5.length c0_5] 46 (0, 0)) (by (with_reducible repeat (first | refine blk_drewN ?_ _ | refine blk_drew ?_ | refine blk_alloc ?_ _)); exact BK258.out)) : gb258 ≠ gb261)); have n7_ := Aside0.mk ((by rw [hg]; exact Nat.ne_of_gt (blk_lt (g := gb258) (o := .cells #[.int .i64 a0_0, .int .u64 a0_1, .int .u64 a0_2, .slice A0_3 l0_3.length c0_3, .int .i64 a0_4, .slice (some ad260) l0_5.length c0_5] 46 (0, 0)) (by (with_reducible repeat (first | refine blk_drewN ?_ _ | refine blk_drew ?_ | refine blk_alloc ?_ _)); exact BK258.out)) : gb261 ≠ gb258)); have n8_ := Aside0.mk ((by rw [hg]; exact Nat.ne_of_lt (blk_lt (g := gb259) (o := .cells #[.int .u64 x260000_2, .string x260001_2] 121 (0, 0)) (by (with_reducible repeat (first | refine blk_drewN ?_ _ | refine blk_drew ?_ | refine blk_alloc ?_ _)); exact BK259.out)) : gb259 ≠ gb261)); have n9_ := Aside0.mk ((by rw [hg]; exact Nat.ne_of_gt (blk_lt (g := gb259) (o := .cells #[.int .u64 x260000_2, .string x260001_2] 121 (0, 0)) (by (with_reducible repeat (first | refine blk_drewN ?_ _ | refine blk_drew ?_ | refine blk_alloc ?_ _)); exact BK259.out)) : gb261 ≠ gb259)); clear BK258; clear BK259; clear HB; have BK258 := n0_; have BK259 := n1_; have HB := n2_; have BK261 := n3_; have GW261 := n4_; have GE261 := n5_; have NB258_261 := n6_; have NB261_258 := n7_; have NB259_261 := n8_; have NB261_259 := n9_; clear n0_ n1_ n2_ n3_ n4_ n5_ n6_ n7_ n8_ n9_; clear hb hbox hg; have hnb46 := NB261_258.out; have hnc46 := NB258_261.out; have hnb47 := NB261_259.out; have hnc47 := NB259_261.out; have hcz48_0 : w45.cell? ⟨gb261, 0, none⟩ = some (.int .u64 0) := (blk_cell BK261.out 0).trans rfl; have hcz48_1 : w45.cell? ⟨gb261, 1, none⟩ = some (.int .u64 0) := (blk_cell BK261.out 1).trans rfl; have hcz48_2 : w45.cell? ⟨gb261, 2, none⟩ = some (.string (⟨#[]⟩ : ByteArray)) := (blk_cell BK261.out 2).trans rfl; have hfz48_0 := blk_frozen BK261.out 0; have hfz48_1 := blk_frozen BK261.out 1; have hfz48_2 := blk_frozen BK261.out 2) | ((with_reducible refine gate_dst (N := 6) rfl ?_); (try (refine gate_guard (by rfl) ?_; dsimp only)); refine box_event ?hg (N := 6) ?hd (cs := #[.int .u64 0, .string (⟨#[]⟩ : ByteArray)]) (t := 121) ?hr ?_; (case hd => rfl); (case hg => rfl); (case hr => first | (go_simp; done) | (go_simp; rfl)); intro gb262 hg w49 hbox hb; have n0_ := Aside0.mk (blk_below (g := gb258) (o := .cells #[.int .i64 a0_0, .int .u64 a0_1, .int .u64 a0_2, .slice A0_3 l0_3.length c0_3, .int .i64 a0_4, .slice (some ad260) l0_5.length c0_5] 46 (0, 0)) (by (with_reducible repeat (first | refine blk_drewN ?_ _ | refine blk_drew ?_ | refine blk_alloc ?_ _)); refine blk_far ?_ NB258_261.out _; (with_reducible repeat (first | refine blk_drewN ?_ _ | refine blk_drew ?_ | refine blk_alloc ?_ _)); refine blk_far ?_ NB258_261.out _; (with_reducible repeat (first | refine blk_drewN ?_ _ | refine blk_drew ?_ | refine blk_alloc ?_ _)); refine blk_far ?_ NB258_261.out _; (with_reducible repeat (first | refine blk_drewN ?_ _ | refine blk_drew ?_ | refine blk_alloc ?_ _)); exact BK258.out) hb); have n1_ := Aside0.mk (blk_below (g := gb259) (o := .cells #[.int .u64 x260000_2, .string x260001_2] 121 (0, 0)) (by (with_reducible repeat (first | refine blk_drewN ?_ _ | refine blk_drew ?_ | refine blk_alloc ?_ _)); refine blk_far ?_ NB259_261.out _; (with_reducible repeat (first | refine blk_drewN ?_ _ | refine blk_drew ?_ | refine blk_alloc ?_ _)); refine blk_far ?_ NB259_261.out _; (with_reducible repeat (first | refine blk_drewN ?_ _ | refine blk_drew ?_ | refine blk_alloc ?_ _)); refine blk_far ?_ NB259_261.out _; (with_reducible repeat (first | refine blk_drewN ?_ _ | refine blk_drew ?_ | refine blk_alloc ?_ _)); exact BK259.out) hb); have n2_ := Aside0.mk (blk_below (g := gb261) (o := .cells #[.int .u64 ((rd_T60 l0_5 x40_2).f0), .int .u64 ((rd_T60 l0_5 x40_2).f1), .string ((rd_T60 l0_5 x40_2).f2)] 60 (0, 0)) (by (with_reducible repeat (first | refine blk_drewN ?_ _ | refine blk_drew ?_ | refine blk_alloc ?_ _)); refine blk_put (cs := #[.int .u64 ((rd_T60 l0_5 x40_2).f0), .int .u64 ((rd_T60 l0_5 x40_2).f1), .string (⟨#[]⟩ : ByteArray)]) ?_ 2 _ rfl; (with_reducible repeat (first | refine blk_drewN ?_ _ | refine blk_drew ?_ | refine blk_alloc ?_ _)); refine blk_put (cs := #[.int .u64 ((rd_T60 l0_5 x40_2).f0), .int .u64 0, .string (⟨#[]⟩ : ByteArray)]) ?_ 1 _ rfl; (with_reducible repeat (first | refine blk_drewN ?_ _ | refine blk_drew ?_ | refine blk_alloc ?_ _)); refine blk_put (cs := #[.int .u64 0, .int .u64 0, .string (⟨#[]⟩ : ByteArray)]) ?_ 0 _ rfl; (with_reducible repeat (first | refine blk_drewN ?_ _ | refine blk_drew ?_ | refine blk_alloc ?_ _)); exact BK261.out) hb); have n3_ := Aside0.mk (below_step (by repeat (first | (with_reducible first | exact HB.out | apply below_alloc | apply pw_below_drewN | apply below_drew1 | refine below_set ?_ GE258.out | refine below_set ?_ GE259.out | refine below_set ?_ GE261.out) | exact HB.out)) hb); have n4_ := Aside0.mk (hbox); have n5_ := Aside0.mk ((by rw [hg]; exact (below_size (by repeat (first | (with_reducible first | exact HB.out | apply below_alloc | apply pw_below_drewN | apply below_drew1 | refine below_set ?_ GE258.out | refine below_set ?_ GE259.out | refine below_set ?_ GE261.out) | exact HB.out))) : w.heap.size ≤ gb262)); have n6_ := Aside0.mk ((by rw [hg]; exact (below_size (by repeat (first | (with_reducible first | exact HB.out | apply below_alloc | apply pw_below_drewN | apply below_drew1 | refine below_set ?_ GE258.out | refine below_set ?_ GE259.out | refine below_set ?_ GE261.out) | exact HB.out))) : w.heap.size ≤ gb262)); have n7_ := Aside0.mk ((by rw [hg]; exact Nat.ne_of_lt (blk_lt (g := gb258) (o := .cells #[.int .i64 a0_0, .int .u64 a0_1, .int .u64 a0_2, .slice A0_3 l0_3.length c0_3, .int .i64 a0_4, .slice (some ad260) l0_5.length c0_5] 46 (0, 0)) (by (with_reducible repeat (first | refine blk_drewN ?_ _ | refine blk_drew ?_ | refine blk_alloc ?_ _)); refine blk_far ?_ NB258_261.out _; (with_reducible repeat (first | refine blk_drewN ?_ _ | refine blk_drew ?_ | refine blk_alloc ?_ _)); refine blk_far ?_ NB258_261.out _; (with_reducible repeat (first | refine blk_drewN ?_ _ | refine blk_drew ?_ | refine blk_alloc ?_ _)); refine blk_far ?_ NB258_261.out _; (with_reducible repeat (first | refine blk_drewN ?_ _ | refine blk_drew ?_ | refine blk_alloc ?_ _)); exact BK258.out)) : gb258 ≠ gb262)); have n8_ := Aside0.mk ((by rw [hg]; exact Nat.ne_of_gt (blk_lt (g := gb258) (o := .cells #[.int .i64 a0_0, .int .u64 a0_1, .int .u64 a0_2, .slice A0_3 l0_3.length c0_3, .int .i64 a0_4, .slice (some ad260) l0_5.length c0_5] 46 (0, 0)) (by (with_reducible repeat (first | refine blk_drewN ?_ _ | refine blk_drew ?_ | refine blk_alloc ?_ _)); refine blk_far ?_ NB258_261.out _; (with_reducible repeat (first | refine blk_drewN ?_ _ | refine blk_drew ?_ | refine blk_alloc ?_ _)); refine blk_far ?_ NB258_261.out _; (with_reducible repeat (first | refine blk_drewN ?_ _ | refine blk_drew ?_ | refine blk_alloc ?_ _)); refine blk_far ?_ NB258_261.out _; (with_reducible repeat (first | refine blk_drewN ?_ _ | refine blk_drew ?_ | refine blk_alloc ?_ _)); exact BK258.out)) : gb262 ≠ gb258)); have n9_ := Aside0.mk ((by rw [hg]; exact Nat.ne_of_lt (blk_lt (g := gb259) (o := .cells #[.int .u64 x260000_2, .string x260001_2] 121 (0, 0)) (by (with_reducible repeat (first | refine blk_drewN ?_ _ | refine blk_drew ?_ | refine blk_alloc ?_ _)); refine blk_far ?_ NB259_261.out _; (with_reducible repeat (first | refine blk_drewN ?_ _ | refine blk_drew ?_ | refine blk_alloc ?_ _)); refine blk_far ?_ NB259_261.out _; (with_reducible repeat (first | refine blk_drewN ?_ _ | refine blk_drew ?_ | refine blk_alloc ?_ _)); refine blk_far ?_ NB259_261.out _; (with_reducible repeat (first | refine blk_drewN ?_ _ | refine blk_drew ?_ | refine blk_alloc ?_ _)); exact BK259.out)) : gb259 ≠ gb262)); have n10_ := Aside0.mk ((by rw [hg]; exact Nat.ne_of_gt (blk_lt (g := gb259) (o := .cells #[.int .u64 x260000_2, .string x260001_2] 121 (0, 0)) (by (with_reducible repeat (first | refine blk_drewN ?_ _ | refine blk_drew ?_ | refine blk_alloc ?_ _)); refine blk_far ?_ NB259_261.out _; (with_reducible repeat (first | refine blk_drewN ?_ _ | refine blk_drew ?_ | refine blk_alloc ?_ _)); refine blk_far ?_ NB259_261.out _; (with_reducible repeat (first | refine blk_drewN ?_ _ | refine blk_drew ?_ | refine blk_alloc ?_ _)); refine blk_far ?_ NB259_261.out _; (with_reducible repeat (first | refine blk_drewN ?_ _ | refine blk_drew ?_ | refine blk_alloc ?_ _)); exact BK259.out)) : gb262 ≠ gb259)); have n11_ := Aside0.mk ((by rw [hg]; exact Nat.ne_of_lt (blk_lt (g := gb261) (o := .cells #[.int .u64 ((rd_T60 l0_5 x40_2).f0), .int .u64 ((rd_T60 l0_5 x40_2).f1), .string ((rd_T60 l0_5 x40_2).f2)] 60 (0, 0)) (by (with_reducible repeat (first | refine blk_drewN ?_ _ | refine blk_drew ?_ | refine blk_alloc ?_ _)); refine blk_put (cs := #[.int .u64 ((rd_T60 l0_5 x40_2).f0), .int .u64 ((rd_T60 l0_5 x40_2).f1), .string (⟨#[]⟩ : ByteArray)]) ?_ 2 _ rfl; (with_reducible repeat (first | refine blk_drewN ?_ _ | refine blk_drew ?_ | refine blk_alloc ?_ _)); refine blk_put (cs := #[.int .u64 ((rd_T60 l0_5 x40_2).f0), .int .u64 0, .string (⟨#[]⟩ : ByteArray)]) ?_ 1 _ rfl; (with_reducible repeat (first | refine blk_drewN ?_ _ | refine blk_drew ?_ | refine blk_alloc ?_ _)); refine blk_put (cs := #[.int .u64 0, .int .u64 0, .string (⟨#[]⟩ : ByteArray)]) ?_ 0 _ rfl; (with_reducible repeat (first | refine blk_drewN ?_ _ | refine blk_drew ?_ | refine blk_alloc ?_ _)); exact BK261.out)) : gb261 ≠ gb262)); have n12_ := Aside0.mk ((by rw [hg]; exact Nat.ne_of_gt (blk_lt (g := gb261) (o := .cells #[.int .u64 ((rd_T60 l0_5 x40_2).f0), .int .u64 ((rd_T60 l0_5 x40_2).f1), .string ((rd_T60 l0_5 x40_2).f2)] 60 (0, 0)) (by (with_reducible repeat (first | refine blk_drewN ?_ _ | refine blk_drew ?_ | refine blk_alloc ?_ _)); refine blk_put (cs := #[.int .u64 ((rd_T60 l0_5 x40_2).f0), .int .u64 ((rd_T60 l0_5 x40_2).f1), .string (⟨#[]⟩ : ByteArray)]) ?_ 2 _ rfl; (with_reducible repeat (first | refine blk_drewN ?_ _ | refine blk_drew ?_ | refine blk_alloc ?_ _)); refine blk_put (cs := #[.int .u64 ((rd_T60 l0_5 x40_2).f0), .int .u64 0, .string (⟨#[]⟩ : ByteArray)]) ?_ 1 _ rfl; (with_reducible repeat (first | refine blk_drewN ?_ _ | refine blk_drew ?_ | refine blk_alloc ?_ _)); refine blk_put (cs := #[.int .u64 0, .int .u64 0, .string (⟨#[]⟩ : ByteArray)]) ?_ 0 _ rfl; (with_reducible repeat (first | refine blk_drewN ?_ _ | refine blk_drew ?_ | refine blk_alloc ?_ _)); exact BK261.out)) : gb262 ≠ gb261)); clear BK258; clear BK259; clear BK261; clear HB; have BK258 := n0_; have BK259 := n1_; have BK261 := n2_; have HB := n3_; have BK262 := n4_; have GW262 := n5_; have GE262 := n6_; have NB258_262 := n7_; have NB262_258 := n8_; have NB259_262 := n9_; have NB262_259 := n10_; have NB261_262 := n11_; have NB262_261 := n12_; clear n0_ n1_ n2_ n3_ n4_ n5_ n6_ n7_ n8_ n9_ n10_ n11_ n12_; clear hb hbox hg; have hnb50 := NB262_258.out; have hnc50 := NB258_262.out; have hnb51 := NB262_259.out; have hnc51 := NB259_262.out; have hnb52 := NB262_261.out; have hnc52 := NB261_262.out; have hcz53_0 : w49.cell? ⟨gb262, 0, none⟩ = some (.int .u64 0) := (blk_cell BK262.out 0).trans rfl; have hcz53_1 : w49.cell? ⟨gb262, 1, none⟩ = some (.string (⟨#[]⟩ : ByteArray)) := (blk_cell BK262.out 1).trans rfl; have hfz53_0 := blk_frozen BK262.out 0; have hfz53_1 := blk_frozen BK262.out 1; have hcz54_0 : w49.cell? ⟨gb261, 0, none⟩ = some (.int .u64 ((rd_T60 l0_5 x40_2).f0)) := (blk_cell BK261.out 0).trans rfl; have hcz54_1 : w49.cell? ⟨gb261, 1, none⟩ = some (.int .u64 ((rd_T60 l0_5 x40_2).f1)) := (blk_cell BK261.out 1).trans rfl; have hcz54_2 : w49.cell? ⟨gb261, 2, none⟩ = some (.string ((rd_T60 l0_5 x40_2).f2)) := (blk_cell BK261.out 2).trans rfl; have hfz54_0 := blk_frozen BK261.out 0; have hfz54_1 := blk_frozen BK261.out 1; have hfz54_2 := blk_frozen BK261.out 2))
                        go_ret
                        exact ⟨by first | rfl | (simp [errW_none, errW_some] <;> rfl) | (simp [*, errW_none, errW_some] <;> rfl), by repeat (first | (with_reducible first | exact HB.out | apply below_alloc | apply pw_below_drewN | apply below_drew1 | refine below_set ?_ GE258.out | refine below_set ?_ GE259.out | refine below_set ?_ GE261.out | refine below_set ?_ GE262.out) | exact HB.out)⟩
                      · rw [if_neg c44] at H
                        have c44b0 : decide (4611686018427387903 < ((rd_T60 l0_5 x40_2).f1)) = false := decide_eq_false c44
                        clear c44
                        replace H := Option.bind_eq_some_iff.mp H
                        obtain ⟨t263, A550, H⟩ := H
                        replace H : (if t263 = true then ((image_place_before.f x260000_2 x260001_2 ((rd_T60 l0_5 x40_2).f0) ((rd_T60 l0_5 x40_2).f2)).bind fun t264 => (if t264 = true then (image_goodDelta.l0 k2 l0_5 (l0_5.length : Int) (wrap64 (x40_2 + 1)) ((rd_T60 l0_5 x40_2).f0) ((rd_T60 l0_5 x40_2).f2)) else (some false))) else (some false)) = some r := H
                        have A55 := Aside0.mk A550
                        clear A550
                        by_cases c56 : t263 = true
                        · subst c56
                          have H1 : ((image_place_before.f x260000_2 x260001_2 ((rd_T60 l0_5 x40_2).f0) ((rd_T60 l0_5 x40_2).f2)).bind fun t264 => (if t264 = true then (image_goodDelta.l0 k2 l0_5 (l0_5.length : Int) (wrap64 (x40_2 + 1)) ((rd_T60 l0_5 x40_2).f0) ((rd_T60 l0_5 x40_2).f2)) else (some false))) = some r := by rw [if_pos rfl] at H; exact H
                          clear H
                          have H := H1
                          clear H1
                          replace H := Option.bind_eq_some_iff.mp H
                          obtain ⟨t264, A570, H⟩ := H
                          replace H : (if t264 = true then (image_goodDelta.l0 k2 l0_5 (l0_5.length : Int) (wrap64 (x40_2 + 1)) ((rd_T60 l0_5 x40_2).f0) ((rd_T60 l0_5 x40_2).f2)) else (some false)) = some r := H
                          have A57 := Aside0.mk A570
                          clear A570
                          by_cases c58 : t264 = true
                          · subst c58
                            have H1 : (image_goodDelta.l0 k2 l0_5 (l0_5.length : Int) (wrap64 (x40_2 + 1)) ((rd_T60 l0_5 x40_2).f0) ((rd_T60 l0_5 x40_2).f2)) = some r := by rw [if_pos rfl] at H; exact H
                            clear H
                            have H := H1
                            clear H1
                            have H' := Aside0.mk H
                            clear H
                            have p260 : 0 ≤ (x40_2 : Int) := of_decide_eq_true (by first | (with_reducible assumption) | assumption)
                            have q260 : x40_2 < (l0_5.length : Int) := of_decide_eq_true (by first | (with_reducible assumption) | assumption)
                            obtain ⟨ad260, e260, hx260_0, hx260_1, hx260_2⟩ := at_T60 HR0_5.out x40_2 p260 q260
                            cases e260
                            replace hx260_0 := (HB.out.cell (World.block_lt_of_cell? w _ hx260_0)).trans hx260_0
                            replace hx260_1 := (HB.out.cell (World.block_lt_of_cell? w _ hx260_1)).trans hx260_1
                            replace hx260_2 := (HB.out.cell (World.block_lt_of_cell? w _ hx260_2)).trans hx260_2
                            replace p260 := eq_true p260
                            replace q260 := eq_true q260
                            go_wp2_with (first | ((with_reducible refine gate_dst (N := 5) rfl ?_); (try (refine gate_guard (by rfl) ?_; dsimp only)); refine box_event ?hg (N := 5) ?hd (cs := #[.int .u64 0, .int .u64 0, .string (⟨#[]⟩ : ByteArray)]) (t := 60) ?hr ?_; (case hd => rfl); (case hg => rfl); (case hr => first | (go_simp; done) | (go_simp; rfl)); intro gb261 hg w59 hbox hb; have n0_ := Aside0.mk (blk_below (g := gb258) (o := .cells #[.int .i64 a0_0, .int .u64 a0_1, .int .u64 a0_2, .slice A0_3 l0_3.length c0_3, .int .i64 a0_4, .slice (some ad260) l0_5.length c0_5] 46 (0, 0)) (by (with_reducible repeat (first | refine blk_drewN ?_ _ | refine blk_drew ?_ | refine blk_alloc ?_ _)); exact BK258.out) hb); have n1_ := Aside0.mk (blk_below (g := gb259) (o := .cells #[.int .u64 x260000_2, .string x260001_2] 121 (0, 0)) (by (with_reducible repeat (first | refine blk_drewN ?_ _ | refine blk_drew ?_ | refine blk_alloc ?_ _)); exact BK259.out) hb); have n2_ := Aside0.mk (below_step (by repeat (first | (with_reducible first | exact HB.out | apply below_alloc | apply pw_below_drewN | apply below_drew1 | refine below_set ?_ GE258.out | refine below_set ?_ GE259.out) | exact HB.out)) hb); have n3_ := Aside0.mk (hbox); have n4_ := Aside0.mk ((by rw [hg]; exact (below_size (by repeat (first | (with_reducible first | exact HB.out | apply below_alloc | apply pw_below_drewN | apply below_drew1 | refine below_set ?_ GE258.out | refine below_set ?_ GE259.out) | exact HB.out))) : w.heap.size ≤ gb261)); have n5_ := Aside0.mk ((by rw [hg]; exact (below_size (by repeat (first | (with_reducible first | exact HB.out | apply below_alloc | apply pw_below_drewN | apply below_drew1 | refine below_set ?_ GE258.out | refine below_set ?_ GE259.out) | exact HB.out))) : w.heap.size ≤ gb261)); have n6_ := Aside0.mk ((by rw [hg]; exact Nat.ne_of_lt (blk_lt (g := gb258) (o := .cells #[.int .i64 a0_0, .int .u64 a0_1, .int .u64 a0_2, .slice A0_3 l0_3.length c0_3, .int .i64 a0_4, .slice (some ad260) l0_5.length c0_5] 46 (0, 0)) (by (with_reducible repeat (first | refine blk_drewN ?_ _ | refine blk_drew ?_ | refine blk_alloc ?_ _)); exact BK258.out)) : gb258 ≠ gb261)); have n7_ := Aside0.mk ((by rw [hg]; exact Nat.ne_of_gt (blk_lt (g := gb258) (o := .cells #[.int .i64 a0_0, .int .u64 a0_1, .int .u64 a0_2, .slice A0_3 l0_3.length c0_3, .int .i64 a0_4, .slice (some ad260) l0_5.length c0_5] 46 (0, 0)) (by (with_reducible repeat (first | refine blk_drewN ?_ _ | refine blk_drew ?_ | refine blk_alloc ?_ _)); exact BK258.out)) : gb261 ≠ gb258)); have n8_ := Aside0.mk ((by rw [hg]; exact Nat.ne_of_lt (blk_lt (g := gb259) (o := .cells #[.int .u64 x260000_2, .string x260001_2] 121 (0, 0)) (by (with_reducible repeat (first | refine blk_drewN ?_ _ | refine blk_drew ?_ | refine blk_alloc ?_ _)); exact BK259.out)) : gb259 ≠ gb261)); have n9_ := Aside0.mk ((by rw [hg]; exact Nat.ne_of_gt (blk_lt (g := gb259) (o := .cells #[.int .u64 x260000_2, .string x260001_2] 121 (0, 0)) (by (with_reducible repeat (first | refine blk_drewN ?_ _ | refine blk_drew ?_ | refine blk_alloc ?_ _)); exact BK259.out)) : gb261 ≠ gb259)); clear BK258; clear BK259; clear HB; have BK258 := n0_; have BK259 := n1_; have HB := n2_; have BK261 := n3_; have GW261 := n4_; have GE261 := n5_; have NB258_261 := n6_; have NB261_258 := n7_; have NB259_261 := n8_; have NB261_259 := n9_; clear n0_ n1_ n2_ n3_ n4_ n5_ n6_ n7_ n8_ n9_; clear hb hbox hg; have hnb60 := NB261_258.out; have hnc60 := NB258_261.out; have hnb61 := NB261_259.out; have hnc61 := NB259_261.out; have hcz62_0 : w59.cell? ⟨gb261, 0, none⟩ = some (.int .u64 0) := (blk_cell BK261.out 0).trans rfl; have hcz62_1 : w59.cell? ⟨gb261, 1, none⟩ = some (.int .u64 0) := (blk_cell BK261.out 1).trans rfl; have hcz62_2 : w59.cell? ⟨gb261, 2, none⟩ = some (.string (⟨#[]⟩ : ByteArray)) := (blk_cell BK261.out 2).trans rfl; have hfz62_0 := blk_frozen BK261.out 0; have hfz62_1 := blk_frozen BK261.out 1; have hfz62_2 := blk_frozen BK261.out 2) | ((with_reducible refine gate_dst (N := 6) rfl ?_); (try (refine gate_guard (by rfl) ?_; dsimp only)); refine box_event ?hg (N := 6) ?hd (cs := #[.int .u64 0, .string (⟨#[]⟩ : ByteArray)]) (t := 121) ?hr ?_; (case hd => rfl); (case hg => rfl); (case hr => first | (go_simp; done) | (go_simp; rfl)); intro gb262 hg w63 hbox hb; have n0_ := Aside0.mk (blk_below (g := gb258) (o := .cells #[.int .i64 a0_0, .int .u64 a0_1, .int .u64 a0_2, .slice A0_3 l0_3.length c0_3, .int .i64 a0_4, .slice (some ad260) l0_5.length c0_5] 46 (0, 0)) (by (with_reducible repeat (first | refine blk_drewN ?_ _ | refine blk_drew ?_ | refine blk_alloc ?_ _)); refine blk_far ?_ NB258_261.out _; (with_reducible repeat (first | refine blk_drewN ?_ _ | refine blk_drew ?_ | refine blk_alloc ?_ _)); refine blk_far ?_ NB258_261.out _; (with_reducible repeat (first | refine blk_drewN ?_ _ | refine blk_drew ?_ | refine blk_alloc ?_ _)); refine blk_far ?_ NB258_261.out _; (with_reducible repeat (first | refine blk_drewN ?_ _ | refine blk_drew ?_ | refine blk_alloc ?_ _)); exact BK258.out) hb); have n1_ := Aside0.mk (blk_below (g := gb259) (o := .cells #[.int .u64 x260000_2, .string x260001_2] 121 (0, 0)) (by (with_reducible repeat (first | refine blk_drewN ?_ _ | refine blk_drew ?_ | refine blk_alloc ?_ _)); refine blk_far ?_ NB259_261.out _; (with_reducible repeat (first | refine blk_drewN ?_ _ | refine blk_drew ?_ | refine blk_alloc ?_ _)); refine blk_far ?_ NB259_261.out _; (with_reducible repeat (first | refine blk_drewN ?_ _ | refine blk_drew ?_ | refine blk_alloc ?_ _)); refine blk_far ?_ NB259_261.out _; (with_reducible repeat (first | refine blk_drewN ?_ _ | refine blk_drew ?_ | refine blk_alloc ?_ _)); exact BK259.out) hb); have n2_ := Aside0.mk (blk_below (g := gb261) (o := .cells #[.int .u64 ((rd_T60 l0_5 x40_2).f0), .int .u64 ((rd_T60 l0_5 x40_2).f1), .string ((rd_T60 l0_5 x40_2).f2)] 60 (0, 0)) (by (with_reducible repeat (first | refine blk_drewN ?_ _ | refine blk_drew ?_ | refine blk_alloc ?_ _)); refine blk_put (cs := #[.int .u64 ((rd_T60 l0_5 x40_2).f0), .int .u64 ((rd_T60 l0_5 x40_2).f1), .string (⟨#[]⟩ : ByteArray)]) ?_ 2 _ rfl; (with_reducible repeat (first | refine blk_drewN ?_ _ | refine blk_drew ?_ | refine blk_alloc ?_ _)); refine blk_put (cs := #[.int .u64 ((rd_T60 l0_5 x40_2).f0), .int .u64 0, .string (⟨#[]⟩ : ByteArray)]) ?_ 1 _ rfl; (with_reducible repeat (first | refine blk_drewN ?_ _ | refine blk_drew ?_ | refine blk_alloc ?_ _)); refine blk_put (cs := #[.int .u64 0, .int .u64 0, .string (⟨#[]⟩ : ByteArray)]) ?_ 0 _ rfl; (with_reducible repeat (first | refine blk_drewN ?_ _ | refine blk_drew ?_ | refine blk_alloc ?_ _)); exact BK261.out) hb); have n3_ := Aside0.mk (below_step (by repeat (first | (with_reducible first | exact HB.out | apply below_alloc | apply pw_below_drewN | apply below_drew1 | refine below_set ?_ GE258.out | refine below_set ?_ GE259.out | refine below_set ?_ GE261.out) | exact HB.out)) hb); have n4_ := Aside0.mk (hbox); have n5_ := Aside0.mk ((by rw [hg]; exact (below_size (by repeat (first | (with_reducible first | exact HB.out | apply below_alloc | apply pw_below_drewN | apply below_drew1 | refine below_set ?_ GE258.out | refine below_set ?_ GE259.out | refine below_set ?_ GE261.out) | exact HB.out))) : w.heap.size ≤ gb262)); have n6_ := Aside0.mk ((by rw [hg]; exact (below_size (by repeat (first | (with_reducible first | exact HB.out | apply below_alloc | apply pw_below_drewN | apply below_drew1 | refine below_set ?_ GE258.out | refine below_set ?_ GE259.out | refine below_set ?_ GE261.out) | exact HB.out))) : w.heap.size ≤ gb262)); have n7_ := Aside0.mk ((by rw [hg]; exact Nat.ne_of_lt (blk_lt (g := gb258) (o := .cells #[.int .i64 a0_0, .int .u64 a0_1, .int .u64 a0_2, .slice A0_3 l0_3.length c0_3, .int .i64 a0_4, .slice (some ad260) l0_5.length c0_5] 46 (0, 0)) (by (with_reducible repeat (first | refine blk_drewN ?_ _ | refine blk_drew ?_ | refine blk_alloc ?_ _)); refine blk_far ?_ NB258_261.out _; (with_reducible repeat (first | refine blk_drewN ?_ _ | refine blk_drew ?_ | refine blk_alloc ?_ _)); refine blk_far ?_ NB258_261.out _; (with_reducible repeat (first | refine blk_drewN ?_ _ | refine blk_drew ?_ | refine blk_alloc ?_ _)); refine blk_far ?_ NB258_261.out _; (with_reducible repeat (first | refine blk_drewN ?_ _ | refine blk_drew ?_ | refine blk_alloc ?_ _)); exact BK258.out)) : gb258 ≠ gb262)); have n8_ := Aside0.mk ((by rw [hg]; exact Nat.ne_of_gt (blk_lt (g := gb258) (o := .cells #[.int .i64 a0_0, .int .u64 a0_1, .int .u64 a0_2, .slice A0_3 l0_3.length c0_3, .int .i64 a0_4, .slice (some ad260) l0_5.length c0_5] 46 (0, 0)) (by (with_reducible repeat (first | refine blk_drewN ?_ _ | refine blk_drew ?_ | refine blk_alloc ?_ _)); refine blk_far ?_ NB258_261.out _; (with_reducible repeat (first | refine blk_drewN ?_ _ | refine blk_drew ?_ | refine blk_alloc ?_ _)); refine blk_far ?_ NB258_261.out _; (with_reducible repeat (first | refine blk_drewN ?_ _ | refine blk_drew ?_ | refine blk_alloc ?_ _)); refine blk_far ?_ NB258_261.out _; (with_reducible repeat (first | refine blk_drewN ?_ _ | refine blk_drew ?_ | refine blk_alloc ?_ _)); exact BK258.out)) : gb262 ≠ gb258)); have n9_ := Aside0.mk ((by rw [hg]; exact Nat.ne_of_lt (blk_lt (g := gb259) (o := .cells #[.int .u64 x260000_2, .string x260001_2] 121 (0, 0)) (by (with_reducible repeat (first | refine blk_drewN ?_ _ | refine blk_drew ?_ | refine blk_alloc ?_ _)); refine blk_far ?_ NB259_261.out _; (with_reducible repeat (first | refine blk_drewN ?_ _ | refine blk_drew ?_ | refine blk_alloc ?_ _)); refine blk_far ?_ NB259_261.out _; (with_reducible repeat (first | refine blk_drewN ?_ _ | refine blk_drew ?_ | refine blk_alloc ?_ _)); refine blk_far ?_ NB259_261.out _; (with_reducible repeat (first | refine blk_drewN ?_ _ | refine blk_drew ?_ | refine blk_alloc ?_ _)); exact BK259.out)) : gb259 ≠ gb262)); have n10_ := Aside0.mk ((by rw [hg]; exact Nat.ne_of_gt (blk_lt (g := gb259) (o := .cells #[.int .u64 x260000_2, .string x260001_2] 121 (0, 0)) (by (with_reducible repeat (first | refine blk_drewN ?_ _ | refine blk_drew ?_ | refine blk_alloc ?_ _)); refine blk_far ?_ NB259_261.out _; (with_reducible repeat (first | refine blk_drewN ?_ _ | refine blk_drew ?_ | refine blk_alloc ?_ _)); refine blk_far ?_ NB259_261.out _; (with_reducible repeat (first | refine blk_drewN ?_ _ | refine blk_drew ?_ | refine blk_alloc ?_ _)); refine blk_far ?_ NB259_261.out _; (with_reducible repeat (first | refine blk_drewN ?_ _ | refine blk_drew ?_ | refine blk_alloc ?_ _)); exact BK259.out)) : gb262 ≠ gb259)); have n11_ := Aside0.mk ((by rw [hg]; exact Nat.ne_of_lt (blk_lt (g := gb261) (o := .cells #[.int .u64 ((rd_T60 l0_5 x40_2).f0), .int .u64 ((rd_T60 l0_5 x40_2).f1), .string ((rd_T60 l0_5 x40_2).f2)] 60 (0, 0)) (by (with_reducible repeat (first | refine blk_drewN ?_ _ | refine blk_drew ?_ | refine blk_alloc ?_ _)); refine blk_put (cs := #[.int .u64 ((rd_T60 l0_5 x40_2).f0), .int .u64 ((rd_T60 l0_5 x40_2).f1), .string (⟨#[]⟩ : ByteArray)]) ?_ 2 _ rfl; (with_reducible repeat (first | refine blk_drewN ?_ _ | refine blk_drew ?_ | refine blk_alloc ?_ _)); refine blk_put (cs := #[.int .u64 ((rd_T60 l0_5 x40_2).f0), .int .u64 0, .string (⟨#[]⟩ : ByteArray)]) ?_ 1 _ rfl; (with_reducible repeat (first | refine blk_drewN ?_ _ | refine blk_drew ?_ | refine blk_alloc ?_ _)); refine blk_put (cs := #[.int .u64 0, .int .u64 0, .string (⟨#[]⟩ : ByteArray)]) ?_ 0 _ rfl; (with_reducible repeat (first | refine blk_drewN ?_ _ | refine blk_drew ?_ | refine blk_alloc ?_ _)); exact BK261.out)) : gb261 ≠ gb262)); have n12_ := Aside0.mk ((by rw [hg]; exact Nat.ne_of_gt (blk_lt (g := gb261) (o := .cells #[.int .u64 ((rd_T60 l0_5 x40_2).f0), .int .u64 ((rd_T60 l0_5 x40_2).f1), .string ((rd_T60 l0_5 x40_2).f2)] 60 (0, 0)) (by (with_reducible repeat (first | refine blk_drewN ?_ _ | refine blk_drew ?_ | refine blk_alloc ?_ _)); refine blk_put (cs := #[.int .u64 ((rd_T60 l0_5 x40_2).f0), .int .u64 ((rd_T60 l0_5 x40_2).f1), .string (⟨#[]⟩ : ByteArray)]) ?_ 2 _ rfl; (with_reducible repeat (first | refine blk_drewN ?_ _ | refine blk_drew ?_ | refine blk_alloc ?_ _)); refine blk_put (cs := #[.int .u64 ((rd_T60 l0_5 x40_2).f0), .int .u64 0, .string (⟨#[]⟩ : ByteArray)]) ?_ 1 _ rfl; (with_reducible repeat (first | refine blk_drewN ?_ _ | refine blk_drew ?_ | refine blk_alloc ?_ _)); refine blk_put (cs := #[.int .u64 0, .int .u64 0, .string (⟨#[]⟩ : ByteArray)]) ?_ 0 _ rfl; (with_reducible repeat (first | refine blk_drewN ?_ _ | refine blk_drew ?_ | refine blk_alloc ?_ _)); exact BK261.out)) : gb262 ≠ gb261)); clear BK258; clear BK259; clear BK261; clear HB; have BK258 := n0_; have BK259 := n1_; have BK261 := n2_; have HB := n3_; have BK262 := n4_; have GW262 := n5_; have GE262 := n6_; have NB258_262 := n7_; have NB262_258 := n8_; have NB259_262 := n9_; have NB262_259 := n10_; have NB261_262 := n11_; have NB262_261 := n12_; clear n0_ n1_ n2_ n3_ n4_ n5_ n6_ n7_ n8_ n9_ n10_ n11_ n12_; clear hb hbox hg; have hnb64 := NB262_258.out; have hnc64 := NB258_262.out; have hnb65 := NB262_259.out; have hnc65 := NB259_262.out; have hnb66 := NB262_261.out; have hnc66 := NB261_262.out; have hcz67_0 : w63.cell? ⟨gb262, 0, none⟩ = some (.int .u64 0) := (blk_cell BK262.out 0).trans rfl; have hcz67_1 : w63.cell? ⟨gb262, 1, none⟩ = some (.string (⟨#[]⟩ : ByteArray)) := (blk_cell BK262.out 1).trans rfl; have hfz67_0 := blk_frozen BK262.out 0; have hfz67_1 := blk_frozen BK262.out 1; have hcz68_0 : w63.cell? ⟨gb261, 0, none⟩ = some (.int .u64 ((rd_T60 l0_5 x40_2).f0)) := (blk_cell BK261.out 0).trans rfl; have hcz68_1 : w63.cell? ⟨gb261, 1, none⟩ = some (.int .u64 ((rd_T60 l0_5 x40_2).f1)) := (blk_cell BK261.out 1).trans rfl; have hcz68_2 : w63.cell? ⟨gb261, 2, none⟩ = some (.string ((rd_T60 l0_5 x40_2).f2)) := (blk_cell BK261.out 2).trans rfl; have hfz68_0 := blk_frozen BK261.out 0; have hfz68_1 := blk_frozen BK261.out 1; have hfz68_2 := blk_frozen BK261.out 2) | (go_at_call 73; (with_reducible refine (image_goodKey.calls ((rd_T60 l0_5 x40_2).f2) true _ A55.out).mono ?_); rintro e w' ⟨rfl, ⟨nd, rfl⟩⟩; have hnb69 := NB259_258.out; have hnc69 := NB258_259.out; have hcz70_0 : w63.cell? ⟨gb259, 0, none⟩ = some (.int .u64 x260000_2) := (blk_cell BK259.out 0).trans rfl; have hcz70_1 : w63.cell? ⟨gb259, 1, none⟩ = some (.string x260001_2) := (blk_cell BK259.out 1).trans rfl; have hfz70_0 := blk_frozen BK259.out 0; have hfz70_1 := blk_frozen BK259.out 1) | (go_at_call 74; (with_reducible refine (image_place_before.calls x260000_2 x260001_2 ((rd_T60 l0_5 x40_2).f0) ((rd_T60 l0_5 x40_2).f2) true _ A57.out).mono ?_); rintro e w71 ⟨rfl, hb⟩; have n0_ := Aside0.mk (blk_below (g := gb258) (o := .cells #[.int .i64 a0_0, .int .u64 a0_1, .int .u64 a0_2, .slice A0_3 l0_3.length c0_3, .int .i64 a0_4, .slice (some ad260) l0_5.length c0_5] 46 (0, 0)) (by (with_reducible repeat (first | refine blk_drewN ?_ _ | refine blk_drew ?_ | refine blk_alloc ?_ _)); refine blk_far ?_ NB258_262.out _; (with_reducible repeat (first | refine blk_drewN ?_ _ | refine blk_drew ?_ | refine blk_alloc ?_ _)); refine blk_far ?_ NB258_262.out _; (with_reducible repeat (first | refine blk_drewN ?_ _ | refine blk_drew ?_ | refine blk_alloc ?_ _)); exact BK258.out) hb); have n1_ := Aside0.mk (blk_below (g := gb259) (o := .cells #[.int .u64 x260000_2, .string x260001_2] 121 (0, 0)) (by (with_reducible repeat (first | refine blk_drewN ?_ _ | refine blk_drew ?_ | refine blk_alloc ?_ _)); refine blk_far ?_ NB259_262.out _; (with_reducible repeat (first | refine blk_drewN ?_ _ | refine blk_drew ?_ | refine blk_alloc ?_ _)); refine blk_far ?_ NB259_262.out _; (with_reducible repeat (first | refine blk_drewN ?_ _ | refine blk_drew ?_ | refine blk_alloc ?_ _)); exact BK259.out) hb); have n2_ := Aside0.mk (blk_below (g := gb261) (o := .cells #[.int .u64 ((rd_T60 l0_5 x40_2).f0), .int .u64 ((rd_T60 l0_5 x40_2).f1), .string ((rd_T60 l0_5 x40_2).f2)] 60 (0, 0)) (by (with_reducible repeat (first | refine blk_drewN ?_ _ | refine blk_drew ?_ | refine blk_alloc ?_ _)); refine blk_far ?_ NB261_262.out _; (with_reducible repeat (first | refine blk_drewN ?_ _ | refine blk_drew ?_ | refine blk_alloc ?_ _)); refine blk_far ?_ NB261_262.out _; (with_reducible repeat (first | refine blk_drewN ?_ _ | refine blk_drew ?_ | refine blk_alloc ?_ _)); exact BK261.out) hb); have n3_ := Aside0.mk (blk_below (g := gb262) (o := .cells #[.int .u64 ((rd_T60 l0_5 x40_2).f0), .string ((rd_T60 l0_5 x40_2).f2)] 121 (0, 0)) (by (with_reducible repeat (first | refine blk_drewN ?_ _ | refine blk_drew ?_ | refine blk_alloc ?_ _)); refine blk_put (cs := #[.int .u64 ((rd_T60 l0_5 x40_2).f0), .string (⟨#[]⟩ : ByteArray)]) ?_ 1 _ rfl; (with_reducible repeat (first | refine blk_drewN ?_ _ | refine blk_drew ?_ | refine blk_alloc ?_ _)); refine blk_put (cs := #[.int .u64 0, .string (⟨#[]⟩ : ByteArray)]) ?_ 0 _ rfl; (with_reducible repeat (first | refine blk_drewN ?_ _ | refine blk_drew ?_ | refine blk_alloc ?_ _)); exact BK262.out) hb); have n4_ := Aside0.mk (below_step (by repeat (first | (with_reducible first | exact HB.out | apply below_alloc | apply pw_below_drewN | apply below_drew1 | refine below_set ?_ GE258.out | refine below_set ?_ GE259.out | refine below_set ?_ GE261.out | refine below_set ?_ GE262.out) | exact HB.out)) hb); clear BK258; clear BK259; clear BK261; clear BK262; clear HB; have BK258 := n0_; have BK259 := n1_; have BK261 := n2_; have BK262 := n3_; have HB := n4_; clear n0_ n1_ n2_ n3_ n4_; (try clear hb); (try clear hb2); (try clear hk); (try clear hi); have hcz72_0 : w71.cell? ⟨gb262, 0, none⟩ = some (.int .u64 ((rd_T60 l0_5 x40_2).f0)) := (blk_cell BK262.out 0).trans rfl; have hcz72_1 : w71.cell? ⟨gb262, 1, none⟩ = some (.string ((rd_T60 l0_5 x40_2).f2)) := (blk_cell BK262.out 1).trans rfl; have hfz72_0 := blk_frozen BK262.out 0; have hfz72_1 := blk_frozen BK262.out 1; have hcz73_0 : w71.cell? ⟨gb259, 0, none⟩ = some (.int .u64 x260000_2) := (blk_cell BK259.out 0).trans rfl; have hcz73_1 : w71.cell? ⟨gb259, 1, none⟩ = some (.string x260001_2) := (blk_cell BK259.out 1).trans rfl; have hfz73_0 := blk_frozen BK259.out 0; have hfz73_1 := blk_frozen BK259.out 1))
                            go_roundg k2
                            case measure => have := HJ1.out; have := HK2.out; omega
                            case rel => exact ⟨(wrap64 (x40_2 + 1)), ((rd_T60 l0_5 x40_2).f0), ((rd_T60 l0_5 x40_2).f2), (by first | rfl | (simp; done) | (simp [*]; done)), H', ⟨by have := HJ1.out; have := HK2.out; omega⟩, ⟨by (with_reducible repeat (first | refine blk_drewN ?_ _ | refine blk_drew ?_ | refine blk_alloc ?_ _)); refine blk_far ?_ NB258_259.out _; (with_reducible repeat (first | refine blk_drewN ?_ _ | refine blk_drew ?_ | refine blk_alloc ?_ _)); refine blk_far ?_ NB258_259.out _; (with_reducible repeat (first | refine blk_drewN ?_ _ | refine blk_drew ?_ | refine blk_alloc ?_ _)); exact BK258.out⟩, ⟨by (with_reducible repeat (first | refine blk_drewN ?_ _ | refine blk_drew ?_ | refine blk_alloc ?_ _)); refine blk_put (cs := #[.int .u64 ((rd_T60 l0_5 x40_2).f0), .string x260001_2]) ?_ 1 _ rfl; (with_reducible repeat (first | refine blk_drewN ?_ _ | refine blk_drew ?_ | refine blk_alloc ?_ _)); refine blk_put (cs := #[.int .u64 x260000_2, .string x260001_2]) ?_ 0 _ rfl; (with_reducible repeat (first | refine blk_drewN ?_ _ | refine blk_drew ?_ | refine blk_alloc ?_ _)); exact BK259.out⟩, ⟨by repeat (first | (with_reducible first | exact HB.out | apply below_alloc | apply pw_below_drewN | apply below_drew1 | refine below_set ?_ GE258.out | refine below_set ?_ GE259.out | refine below_set ?_ GE261.out | refine below_set ?_ GE262.out) | exact HB.out)⟩⟩
                          · replace c58 := Bool.eq_false_iff.mpr c58
                            subst c58
                            have H1 : (some false) = some r := by rw [if_neg (show ¬ (false = true) by decide)] at H; exact H
                            clear H
                            have H := H1
                            clear H1
                            obtain rfl := Option.some.inj H
                            have p260 : 0 ≤ (x40_2 : Int) := of_decide_eq_true (by first | (with_reducible assumption) | assumption)
                            have q260 : x40_2 < (l0_5.length : Int) := of_decide_eq_true (by first | (with_reducible assumption) | assumption)
                            obtain ⟨ad260, e260, hx260_0, hx260_1, hx260_2⟩ := at_T60 HR0_5.out x40_2 p260 q260
                            cases e260
                            replace hx260_0 := (HB.out.cell (World.block_lt_of_cell? w _ hx260_0)).trans hx260_0
                            replace hx260_1 := (HB.out.cell (World.block_lt_of_cell? w _ hx260_1)).trans hx260_1
                            replace hx260_2 := (HB.out.cell (World.block_lt_of_cell? w _ hx260_2)).trans hx260_2
                            replace p260 := eq_true p260
                            replace q260 := eq_true q260
                            go_wp2_with (first | ((with_reducible refine gate_dst (N := 5) rfl ?_); (try (refine gate_guard (by rfl) ?_; dsimp only)); refine box_event ?hg (N := 5) ?hd (cs := #[.int .u64 0, .int .u64 0, .string (⟨#[]⟩ : ByteArray)]) (t := 60) ?hr ?_; (case hd => rfl); (case hg => rfl); (case hr => first | (go_simp; done) | (go_simp; rfl)); intro gb261 hg w74 hbox hb; have n0_ := Aside0.mk (blk_below (g := gb258) (o := .cells #[.int .i64 a0_0, .int .u64 a0_1, .int .u64 a0_2, .slice A0_3 l0_3.length c0_3, .int .i64 a0_4, .slice (some ad260) l0_5.length c0_5] 46 (0, 0)) (by (with_reducible repeat (first | refine blk_drewN ?_ _ | refine blk_drew ?_ | refine blk_alloc ?_ _)); exact BK258.out) hb); have n1_ := Aside0.mk (blk_below (g := gb259) (o := .cells #[.int .u64 x260000_2, .string x260001_2] 121 (0, 0)) (by (with_reducible repeat (first | refine blk_drewN ?_ _ | refine blk_drew ?_ | refine blk_alloc ?_ _)); exact BK259.out) hb); have n2_ := Aside0.mk (below_step (by repeat (first | (with_reducible first | exact HB.out | apply below_alloc | apply pw_below_drewN | apply below_drew1 | refine below_set ?_ GE258.out | refine below_set ?_ GE259.out) | exact HB.out)) hb); have n3_ := Aside0.mk (hbox); have n4_ := Aside0.mk ((by rw [hg]; exact (below_size (by repeat (first | (with_reducible first | exact HB.out | apply below_alloc | apply pw_below_drewN | apply below_drew1 | refine below_set ?_ GE258.out | refine below_set ?_ GE259.out) | exact HB.out))) : w.heap.size ≤ gb261)); have n5_ := Aside0.mk ((by rw [hg]; exact (below_size (by repeat (first | (with_reducible first | exact HB.out | apply below_alloc | apply pw_below_drewN | apply below_drew1 | refine below_set ?_ GE258.out | refine below_set ?_ GE259.out) | exact HB.out))) : w.heap.size ≤ gb261)); have n6_ := Aside0.mk ((by rw [hg]; exact Nat.ne_of_lt (blk_lt (g := gb258) (o := .cells #[.int .i64 a0_0, .int .u64 a0_1, .int .u64 a0_2, .slice A0_3 l0_3.length c0_3, .int .i64 a0_4, .slice (some ad260) l0_5.length c0_5] 46 (0, 0)) (by (with_reducible repeat (first | refine blk_drewN ?_ _ | refine blk_drew ?_ | refine blk_alloc ?_ _)); exact BK258.out)) : gb258 ≠ gb261)); have n7_ := Aside0.mk ((by rw [hg]; exact Nat.ne_of_gt (blk_lt (g := gb258) (o := .cells #[.int .i64 a0_0, .int .u64 a0_1, .int .u64 a0_2, .slice A0_3 l0_3.length c0_3, .int .i64 a0_4, .slice (some ad260) l0_5.length c0_5] 46 (0, 0)) (by (with_reducible repeat (first | refine blk_drewN ?_ _ | refine blk_drew ?_ | refine blk_alloc ?_ _)); exact BK258.out)) : gb261 ≠ gb258)); have n8_ := Aside0.mk ((by rw [hg]; exact Nat.ne_of_lt (blk_lt (g := gb259) (o := .cells #[.int .u64 x260000_2, .string x260001_2] 121 (0, 0)) (by (with_reducible repeat (first | refine blk_drewN ?_ _ | refine blk_drew ?_ | refine blk_alloc ?_ _)); exact BK259.out)) : gb259 ≠ gb261)); have n9_ := Aside0.mk ((by rw [hg]; exact Nat.ne_of_gt (blk_lt (g := gb259) (o := .cells #[.int .u64 x260000_2, .string x260001_2] 121 (0, 0)) (by (with_reducible repeat (first | refine blk_drewN ?_ _ | refine blk_drew ?_ | refine blk_alloc ?_ _)); exact BK259.out)) : gb261 ≠ gb259)); clear BK258; clear BK259; clear HB; have BK258 := n0_; have BK259 := n1_; have HB := n2_; have BK261 := n3_; have GW261 := n4_; have GE261 := n5_; have NB258_261 := n6_; have NB261_258 := n7_; have NB259_261 := n8_; have NB261_259 := n9_; clear n0_ n1_ n2_ n3_ n4_ n5_ n6_ n7_ n8_ n9_; clear hb hbox hg; have hnb75 := NB261_258.out; have hnc75 := NB258_261.out; have hnb76 := NB261_259.out; have hnc76 := NB259_261.out; have hcz77_0 : w74.cell? ⟨gb261, 0, none⟩ = some (.int .u64 0) := (blk_cell BK261.out 0).trans rfl; have hcz77_1 : w74.cell? ⟨gb261, 1, none⟩ = some (.int .u64 0) := (blk_cell BK261.out 1).trans rfl; have hcz77_2 : w74.cell? ⟨gb261, 2, none⟩ = some (.string (⟨#[]⟩ : ByteArray)) := (blk_cell BK261.out 2).trans rfl; have hfz77_0 := blk_frozen BK261.out 0; have hfz77_1 := blk_frozen BK261.out 1; have hfz77_2 := blk_frozen BK261.out 2) | ((with_reducible refine gate_dst (N := 6) rfl ?_); (try (refine gate_guard (by rfl) ?_; dsimp only)); refine box_event ?hg (N := 6) ?hd (cs := #[.int .u64 0, .string (⟨#[]⟩ : ByteArray)]) (t := 121) ?hr ?_; (case hd => rfl); (case hg => rfl); (case hr => first | (go_simp; done) | (go_simp; rfl)); intro gb262 hg w78 hbox hb; have n0_ := Aside0.mk (blk_below (g := gb258) (o := .cells #[.int .i64 a0_0, .int .u64 a0_1, .int .u64 a0_2, .slice A0_3 l0_3.length c0_3, .int .i64 a0_4, .slice (some ad260) l0_5.length c0_5] 46 (0, 0)) (by (with_reducible repeat (first | refine blk_drewN ?_ _ | refine blk_drew ?_ | refine blk_alloc ?_ _)); refine blk_far ?_ NB258_261.out _; (with_reducible repeat (first | refine blk_drewN ?_ _ | refine blk_drew ?_ | refine blk_alloc ?_ _)); refine blk_far ?_ NB258_261.out _; (with_reducible repeat (first | refine blk_drewN ?_ _ | refine blk_drew ?_ | refine blk_alloc ?_ _)); refine blk_far ?_ NB258_261.out _; (with_reducible repeat (first | refine blk_drewN ?_ _ | refine blk_drew ?_ | refine blk_alloc ?_ _)); exact BK258.out) hb); have n1_ := Aside0.mk (blk_below (g := gb259) (o := .cells #[.int .u64 x260000_2, .string x260001_2] 121 (0, 0)) (by (with_reducible repeat (first | refine blk_drewN ?_ _ | refine blk_drew ?_ | refine blk_alloc ?_ _)); refine blk_far ?_ NB259_261.out _; (with_reducible repeat (first | refine blk_drewN ?_ _ | refine blk_drew ?_ | refine blk_alloc ?_ _)); refine blk_far ?_ NB259_261.out _; (with_reducible repeat (first | refine blk_drewN ?_ _ | refine blk_drew ?_ | refine blk_alloc ?_ _)); refine blk_far ?_ NB259_261.out _; (with_reducible repeat (first | refine blk_drewN ?_ _ | refine blk_drew ?_ | refine blk_alloc ?_ _)); exact BK259.out) hb); have n2_ := Aside0.mk (blk_below (g := gb261) (o := .cells #[.int .u64 ((rd_T60 l0_5 x40_2).f0), .int .u64 ((rd_T60 l0_5 x40_2).f1), .string ((rd_T60 l0_5 x40_2).f2)] 60 (0, 0)) (by (with_reducible repeat (first | refine blk_drewN ?_ _ | refine blk_drew ?_ | refine blk_alloc ?_ _)); refine blk_put (cs := #[.int .u64 ((rd_T60 l0_5 x40_2).f0), .int .u64 ((rd_T60 l0_5 x40_2).f1), .string (⟨#[]⟩ : ByteArray)]) ?_ 2 _ rfl; (with_reducible repeat (first | refine blk_drewN ?_ _ | refine blk_drew ?_ | refine blk_alloc ?_ _)); refine blk_put (cs := #[.int .u64 ((rd_T60 l0_5 x40_2).f0), .int .u64 0, .string (⟨#[]⟩ : ByteArray)]) ?_ 1 _ rfl; (with_reducible repeat (first | refine blk_drewN ?_ _ | refine blk_drew ?_ | refine blk_alloc ?_ _)); refine blk_put (cs := #[.int .u64 0, .int .u64 0, .string (⟨#[]⟩ : ByteArray)]) ?_ 0 _ rfl; (with_reducible repeat (first | refine blk_drewN ?_ _ | refine blk_drew ?_ | refine blk_alloc ?_ _)); exact BK261.out) hb); have n3_ := Aside0.mk (below_step (by repeat (first | (with_reducible first | exact HB.out | apply below_alloc | apply pw_below_drewN | apply below_drew1 | refine below_set ?_ GE258.out | refine below_set ?_ GE259.out | refine below_set ?_ GE261.out) | exact HB.out)) hb); have n4_ := Aside0.mk (hbox); have n5_ := Aside0.mk ((by rw [hg]; exact (below_size (by repeat (first | (with_reducible first | exact HB.out | apply below_alloc | apply pw_below_drewN | apply below_drew1 | refine below_set ?_ GE258.out | refine below_set ?_ GE259.out | refine below_set ?_ GE261.out) | exact HB.out))) : w.heap.size ≤ gb262)); have n6_ := Aside0.mk ((by rw [hg]; exact (below_size (by repeat (first | (with_reducible first | exact HB.out | apply below_alloc | apply pw_below_drewN | apply below_drew1 | refine below_set ?_ GE258.out | refine below_set ?_ GE259.out | refine below_set ?_ GE261.out) | exact HB.out))) : w.heap.size ≤ gb262)); have n7_ := Aside0.mk ((by rw [hg]; exact Nat.ne_of_lt (blk_lt (g := gb258) (o := .cells #[.int .i64 a0_0, .int .u64 a0_1, .int .u64 a0_2, .slice A0_3 l0_3.length c0_3, .int .i64 a0_4, .slice (some ad260) l0_5.length c0_5] 46 (0, 0)) (by (with_reducible repeat (first | refine blk_drewN ?_ _ | refine blk_drew ?_ | refine blk_alloc ?_ _)); refine blk_far ?_ NB258_261.out _; (with_reducible repeat (first | refine blk_drewN ?_ _ | refine blk_drew ?_ | refine blk_alloc ?_ _)); refine blk_far ?_ NB258_261.out _; (with_reducible repeat (first | refine blk_drewN ?_ _ | refine blk_drew ?_ | refine blk_alloc ?_ _)); refine blk_far ?_ NB258_261.out _; (with_reducible repeat (first | refine blk_drewN ?_ _ | refine blk_drew ?_ | refine blk_alloc ?_ _)); exact BK258.out)) : gb258 ≠ gb262)); have n8_ := Aside0.mk ((by rw [hg]; exact Nat.ne_of_gt (blk_lt (g := gb258) (o := .cells #[.int .i64 a0_0, .int .u64 a0_1, .int .u64 a0_2, .slice A0_3 l0_3.length c0_3, .int .i64 a0_4, .slice (some ad260) l0_5.length c0_5] 46 (0, 0)) (by (with_reducible repeat (first | refine blk_drewN ?_ _ | refine blk_drew ?_ | refine blk_alloc ?_ _)); refine blk_far ?_ NB258_261.out _; (with_reducible repeat (first | refine blk_drewN ?_ _ | refine blk_drew ?_ | refine blk_alloc ?_ _)); refine blk_far ?_ NB258_261.out _; (with_reducible repeat (first | refine blk_drewN ?_ _ | refine blk_drew ?_ | refine blk_alloc ?_ _)); refine blk_far ?_ NB258_261.out _; (with_reducible repeat (first | refine blk_drewN ?_ _ | refine blk_drew ?_ | refine blk_alloc ?_ _)); exact BK258.out)) : gb262 ≠ gb258)); have n9_ := Aside0.mk ((by rw [hg]; exact Nat.ne_of_lt (blk_lt (g := gb259) (o := .cells #[.int .u64 x260000_2, .string x260001_2] 121 (0, 0)) (by (with_reducible repeat (first | refine blk_drewN ?_ _ | refine blk_drew ?_ | refine blk_alloc ?_ _)); refine blk_far ?_ NB259_261.out _; (with_reducible repeat (first | refine blk_drewN ?_ _ | refine blk_drew ?_ | refine blk_alloc ?_ _)); refine blk_far ?_ NB259_261.out _; (with_reducible repeat (first | refine blk_drewN ?_ _ | refine blk_drew ?_ | refine blk_alloc ?_ _)); refine blk_far ?_ NB259_261.out _; (with_reducible repeat (first | refine blk_drewN ?_ _ | refine blk_drew ?_ | refine blk_alloc ?_ _)); exact BK259.out)) : gb259 ≠ gb262)); have n10_ := Aside0.mk ((by rw [hg]; exact Nat.ne_of_gt (blk_lt (g := gb259) (o := .cells #[.int .u64 x260000_2, .string x260001_2] 121 (0, 0)) (by (with_reducible repeat (first | refine blk_drewN ?_ _ | refine blk_drew ?_ | refine blk_alloc ?_ _)); refine blk_far ?_ NB259_261.out _; (with_reducible repeat (first | refine blk_drewN ?_ _ | refine blk_drew ?_ | refine blk_alloc ?_ _)); refine blk_far ?_ NB259_261.out _; (with_reducible repeat (first | refine blk_drewN ?_ _ | refine blk_drew ?_ | refine blk_alloc ?_ _)); refine blk_far ?_ NB259_261.out _; (with_reducible repeat (first | refine blk_drewN ?_ _ | refine blk_drew ?_ | refine blk_alloc ?_ _)); exact BK259.out)) : gb262 ≠ gb259)); have n11_ := Aside0.mk ((by rw [hg]; exact Nat.ne_of_lt (blk_lt (g := gb261) (o := .cells #[.int .u64 ((rd_T60 l0_5 x40_2).f0), .int .u64 ((rd_T60 l0_5 x40_2).f1), .string ((rd_T60 l0_5 x40_2).f2)] 60 (0, 0)) (by (with_reducible repeat (first | refine blk_drewN ?_ _ | refine blk_drew ?_ | refine blk_alloc ?_ _)); refine blk_put (cs := #[.int .u64 ((rd_T60 l0_5 x40_2).f0), .int .u64 ((rd_T60 l0_5 x40_2).f1), .string (⟨#[]⟩ : ByteArray)]) ?_ 2 _ rfl; (with_reducible repeat (first | refine blk_drewN ?_ _ | refine blk_drew ?_ | refine blk_alloc ?_ _)); refine blk_put (cs := #[.int .u64 ((rd_T60 l0_5 x40_2).f0), .int .u64 0, .string (⟨#[]⟩ : ByteArray)]) ?_ 1 _ rfl; (with_reducible repeat (first | refine blk_drewN ?_ _ | refine blk_drew ?_ | refine blk_alloc ?_ _)); refine blk_put (cs := #[.int .u64 0, .int .u64 0, .string (⟨#[]⟩ : ByteArray)]) ?_ 0 _ rfl; (with_reducible repeat (first | refine blk_drewN ?_ _ | refine blk_drew ?_ | refine blk_alloc ?_ _)); exact BK261.out)) : gb261 ≠ gb262)); have n12_ := Aside0.mk ((by rw [hg]; exact Nat.ne_of_gt (blk_lt (g := gb261) (o := .cells #[.int .u64 ((rd_T60 l0_5 x40_2).f0), .int .u64 ((rd_T60 l0_5 x40_2).f1), .string ((rd_T60 l0_5 x40_2).f2)] 60 (0, 0)) (by (with_reducible repeat (first | refine blk_drewN ?_ _ | refine blk_drew ?_ | refine blk_alloc ?_ _)); refine blk_put (cs := #[.int .u64 ((rd_T60 l0_5 x40_2).f0), .int .u64 ((rd_T60 l0_5 x40_2).f1), .string (⟨#[]⟩ : ByteArray)]) ?_ 2 _ rfl; (with_reducible repeat (first | refine blk_drewN ?_ _ | refine blk_drew ?_ | refine blk_alloc ?_ _)); refine blk_put (cs := #[.int .u64 ((rd_T60 l0_5 x40_2).f0), .int .u64 0, .string (⟨#[]⟩ : ByteArray)]) ?_ 1 _ rfl; (with_reducible repeat (first | refine blk_drewN ?_ _ | refine blk_drew ?_ | refine blk_alloc ?_ _)); refine blk_put (cs := #[.int .u64 0, .int .u64 0, .string (⟨#[]⟩ : ByteArray)]) ?_ 0 _ rfl; (with_reducible repeat (first | refine blk_drewN ?_ _ | refine blk_drew ?_ | refine blk_alloc ?_ _)); exact BK261.out)) : gb262 ≠ gb261)); clear BK258; clear BK259; clear BK261; clear HB; have BK258 := n0_; have BK259 := n1_; have BK261 := n2_; have HB := n3_; have BK262 := n4_; have GW262 := n5_; have GE262 := n6_; have NB258_262 := n7_; have NB262_258 := n8_; have NB259_262 := n9_; have NB262_259 := n10_; have NB261_262 := n11_; have NB262_261 := n12_; clear n0_ n1_ n2_ n3_ n4_ n5_ n6_ n7_ n8_ n9_ n10_ n11_ n12_; clear hb hbox hg; have hnb79 := NB262_258.out; have hnc79 := NB258_262.out; have hnb80 := NB262_259.out; have hnc80 := NB259_262.out; have hnb81 := NB262_261.out; have hnc81 := NB261_262.out; have hcz82_0 : w78.cell? ⟨gb262, 0, none⟩ = some (.int .u64 0) := (blk_cell BK262.out 0).trans rfl; have hcz82_1 : w78.cell? ⟨gb262, 1, none⟩ = some (.string (⟨#[]⟩ : ByteArray)) := (blk_cell BK262.out 1).trans rfl; have hfz82_0 := blk_frozen BK262.out 0; have hfz82_1 := blk_frozen BK262.out 1; have hcz83_0 : w78.cell? ⟨gb261, 0, none⟩ = some (.int .u64 ((rd_T60 l0_5 x40_2).f0)) := (blk_cell BK261.out 0).trans rfl; have hcz83_1 : w78.cell? ⟨gb261, 1, none⟩ = some (.int .u64 ((rd_T60 l0_5 x40_2).f1)) := (blk_cell BK261.out 1).trans rfl; have hcz83_2 : w78.cell? ⟨gb261, 2, none⟩ = some (.string ((rd_T60 l0_5 x40_2).f2)) := (blk_cell BK261.out 2).trans rfl; have hfz83_0 := blk_frozen BK261.out 0; have hfz83_1 := blk_frozen BK261.out 1; have hfz83_2 := blk_frozen BK261.out 2) | (go_at_call 73; (with_reducible refine (image_goodKey.calls ((rd_T60 l0_5 x40_2).f2) true _ A55.out).mono ?_); rintro e w' ⟨rfl, ⟨nd, rfl⟩⟩; have hnb84 := NB259_258.out; have hnc84 := NB258_259.out; have hcz85_0 : w78.cell? ⟨gb259, 0, none⟩ = some (.int .u64 x260000_2) := (blk_cell BK259.out 0).trans rfl; have hcz85_1 : w78.cell? ⟨gb259, 1, none⟩ = some (.string x260001_2) := (blk_cell BK259.out 1).trans rfl; have hfz85_0 := blk_frozen BK259.out 0; have hfz85_1 := blk_frozen BK259.out 1) | (go_at_call 74; (with_reducible refine (image_place_before.calls x260000_2 x260001_2 ((rd_T60 l0_5 x40_2).f0) ((rd_T60 l0_5 x40_2).f2) false _ A57.out).mono ?_); rintro e w86 ⟨rfl, hb⟩; have n0_ := Aside0.mk (blk_below (g := gb258) (o := .cells #[.int .i64 a0_0, .int .u64 a0_1, .int .u64 a0_2, .slice A0_3 l0_3.length c0_3, .int .i64 a0_4, .slice (some ad260) l0_5.length c0_5] 46 (0, 0)) (by (with_reducible repeat (first | refine blk_drewN ?_ _ | refine blk_drew ?_ | refine blk_alloc ?_ _)); refine blk_far ?_ NB258_262.out _; (with_reducible repeat (first | refine blk_drewN ?_ _ | refine blk_drew ?_ | refine blk_alloc ?_ _)); refine blk_far ?_ NB258_262.out _; (with_reducible repeat (first | refine blk_drewN ?_ _ | refine blk_drew ?_ | refine blk_alloc ?_ _)); exact BK258.out) hb); have n1_ := Aside0.mk (blk_below (g := gb259) (o := .cells #[.int .u64 x260000_2, .string x260001_2] 121 (0, 0)) (by (with_reducible repeat (first | refine blk_drewN ?_ _ | refine blk_drew ?_ | refine blk_alloc ?_ _)); refine blk_far ?_ NB259_262.out _; (with_reducible repeat (first | refine blk_drewN ?_ _ | refine blk_drew ?_ | refine blk_alloc ?_ _)); refine blk_far ?_ NB259_262.out _; (with_reducible repeat (first | refine blk_drewN ?_ _ | refine blk_drew ?_ | refine blk_alloc ?_ _)); exact BK259.out) hb); have n2_ := Aside0.mk (blk_below (g := gb261) (o := .cells #[.int .u64 ((rd_T60 l0_5 x40_2).f0), .int .u64 ((rd_T60 l0_5 x40_2).f1), .string ((rd_T60 l0_5 x40_2).f2)] 60 (0, 0)) (by (with_reducible repeat (first | refine blk_drewN ?_ _ | refine blk_drew ?_ | refine blk_alloc ?_ _)); refine blk_far ?_ NB261_262.out _; (with_reducible repeat (first | refine blk_drewN ?_ _ | refine blk_drew ?_ | refine blk_alloc ?_ _)); refine blk_far ?_ NB261_262.out _; (with_reducible repeat (first | refine blk_drewN ?_ _ | refine blk_drew ?_ | refine blk_alloc ?_ _)); exact BK261.out) hb); have n3_ := Aside0.mk (blk_below (g := gb262) (o := .cells #[.int .u64 ((rd_T60 l0_5 x40_2).f0), .string ((rd_T60 l0_5 x40_2).f2)] 121 (0, 0)) (by (with_reducible repeat (first | refine blk_drewN ?_ _ | refine blk_drew ?_ | refine blk_alloc ?_ _)); refine blk_put (cs := #[.int .u64 ((rd_T60 l0_5 x40_2).f0), .string (⟨#[]⟩ : ByteArray)]) ?_ 1 _ rfl; (with_reducible repeat (first | refine blk_drewN ?_ _ | refine blk_drew ?_ | refine blk_alloc ?_ _)); refine blk_put (cs := #[.int .u64 0, .string (⟨#[]⟩ : ByteArray)]) ?_ 0 _ rfl; (with_reducible repeat (first | refine blk_drewN ?_ _ | refine blk_drew ?_ | refine blk_alloc ?_ _)); exact BK262.out) hb); have n4_ := Aside0.mk (below_step (by repeat (first | (with_reducible first | exact HB.out | apply below_alloc | apply pw_below_drewN | apply below_drew1 | refine below_set ?_ GE258.out | refine below_set ?_ GE259.out | refine below_set ?_ GE261.out | refine below_set ?_ GE262.out) | exact HB.out)) hb); clear BK258; clear BK259; clear BK261; clear BK262; clear HB; have BK258 := n0_; have BK259 := n1_; have BK261 := n2_; have BK262 := n3_; have HB := n4_; clear n0_ n1_ n2_ n3_ n4_; (try clear hb); (try clear hb2); (try clear hk); (try clear hi)))
                            go_ret
                            exact ⟨by first | rfl | (simp [errW_none, errW_some] <;> rfl) | (simp [*, errW_none, errW_some] <;> rfl), by repeat (first | (with_reducible first | exact HB.out | apply below_alloc | apply pw_below_drewN | apply below_drew1 | refine below_set ?_ GE258.out | refine below_set ?_ GE259.out | refine below_set ?_ GE261.out | refine below_set ?_ GE262.out) | exact HB.out)⟩
                        · replace c56 := Bool.eq_false_iff.mpr c56
                          subst c56
                          have H1 : (some false) = some r := by rw [if_neg (show ¬ (false = true) by decide)] at H; exact H
                          clear H
                          have H := H1
                          clear H1
                          obtain rfl := Option.some.inj H
                          have p260 : 0 ≤ (x40_2 : Int) := of_decide_eq_true (by first | (with_reducible assumption) | assumption)
                          have q260 : x40_2 < (l0_5.length : Int) := of_decide_eq_true (by first | (with_reducible assumption) | assumption)
                          obtain ⟨ad260, e260, hx260_0, hx260_1, hx260_2⟩ := at_T60 HR0_5.out x40_2 p260 q260
                          cases e260
                          replace hx260_0 := (HB.out.cell (World.block_lt_of_cell? w _ hx260_0)).trans hx260_0
                          replace hx260_1 := (HB.out.cell (World.block_lt_of_cell? w _ hx260_1)).trans hx260_1
                          replace hx260_2 := (HB.out.cell (World.block_lt_of_cell? w _ hx260_2)).trans hx260_2
                          replace p260 := eq_true p260
                          replace q260 := eq_true q260
                          go_wp2_with (first | ((with_reducible refine gate_dst (N := 5) rfl ?_); (try (refine gate_guard (by rfl) ?_; dsimp only)); refine box_event ?hg (N := 5) ?hd (cs := #[.int .u64 0, .int .u64 0, .string (⟨#[]⟩ : ByteArray)]) (t := 60) ?hr ?_; (case hd => rfl); (case hg => rfl); (case hr => first | (go_simp; done) | (go_simp; rfl)); intro gb261 hg w87 hbox hb; have n0_ := Aside0.mk (blk_below (g := gb258) (o := .cells #[.int .i64 a0_0, .int .u64 a0_1, .int .u64 a0_2, .slice A0_3 l0_3.length c0_3, .int .i64 a0_4, .slice (some ad260) l0_5.length c0_5] 46 (0, 0)) (by (with_reducible repeat (first | refine blk_drewN ?_ _ | refine blk_drew ?_ | refine blk_alloc ?_ _)); exact BK258.out) hb); have n1_ := Aside0.mk (blk_below (g := gb259) (o := .cells #[.int .u64 x260000_2, .string x260001_2] 121 (0, 0)) (by (with_reducible repeat (first | refine blk_drewN ?_ _ | refine blk_drew ?_ | refine blk_alloc ?_ _)); exact BK259.out) hb); have n2_ := Aside0.mk (below_step (by repeat (first | (with_reducible first | exact HB.out | apply below_alloc | apply pw_below_drewN | apply below_drew1 | refine below_set ?_ GE258.out | refine below_set ?_ GE259.out) | exact HB.out)) hb); have n3_ := Aside0.mk (hbox); have n4_ := Aside0.mk ((by rw [hg]; exact (below_size (by repeat (first | (with_reducible first | exact HB.out | apply below_alloc | apply pw_below_drewN | apply below_drew1 | refine below_set ?_ GE258.out | refine below_set ?_ GE259.out) | exact HB.out))) : w.heap.size ≤ gb261)); have n5_ := Aside0.mk ((by rw [hg]; exact (below_size (by repeat (first | (with_reducible first | exact HB.out | apply below_alloc | apply pw_below_drewN | apply below_drew1 | refine below_set ?_ GE258.out | refine below_set ?_ GE259.out) | exact HB.out))) : w.heap.size ≤ gb261)); have n6_ := Aside0.mk ((by rw [hg]; exact Nat.ne_of_lt (blk_lt (g := gb258) (o := .cells #[.int .i64 a0_0, .int .u64 a0_1, .int .u64 a0_2, .slice A0_3 l0_3.length c0_3, .int .i64 a0_4, .slice (some ad260) l0_5.length c0_5] 46 (0, 0)) (by (with_reducible repeat (first | refine blk_drewN ?_ _ | refine blk_drew ?_ | refine blk_alloc ?_ _)); exact BK258.out)) : gb258 ≠ gb261)); have n7_ := Aside0.mk ((by rw [hg]; exact Nat.ne_of_gt (blk_lt (g := gb258) (o := .cells #[.int .i64 a0_0, .int .u64 a0_1, .int .u64 a0_2, .slice A0_3 l0_3.length c0_3, .int .i64 a0_4, .slice (some ad260) l0_5.length c0_5] 46 (0, 0)) (by (with_reducible repeat (first | refine blk_drewN ?_ _ | refine blk_drew ?_ | refine blk_alloc ?_ _)); exact BK258.out)) : gb261 ≠ gb258)); have n8_ := Aside0.mk ((by rw [hg]; exact Nat.ne_of_lt (blk_lt (g := gb259) (o := .cells #[.int .u64 x260000_2, .string x260001_2] 121 (0, 0)) (by (with_reducible repeat (first | refine blk_drewN ?_ _ | refine blk_drew ?_ | refine blk_alloc ?_ _)); exact BK259.out)) : gb259 ≠ gb261)); have n9_ := Aside0.mk ((by rw [hg]; exact Nat.ne_of_gt (blk_lt (g := gb259) (o := .cells #[.int .u64 x260000_2, .string x260001_2] 121 (0, 0)) (by (with_reducible repeat (first | refine blk_drewN ?_ _ | refine blk_drew ?_ | refine blk_alloc ?_ _)); exact BK259.out)) : gb261 ≠ gb259)); clear BK258; clear BK259; clear HB; have BK258 := n0_; have BK259 := n1_; have HB := n2_; have BK261 := n3_; have GW261 := n4_; have GE261 := n5_; have NB258_261 := n6_; have NB261_258 := n7_; have NB259_261 := n8_; have NB261_259 := n9_; clear n0_ n1_ n2_ n3_ n4_ n5_ n6_ n7_ n8_ n9_; clear hb hbox hg; have hnb88 := NB261_258.out; have hnc88 := NB258_261.out; have hnb89 := NB261_259.out; have hnc89 := NB259_261.out; have hcz90_0 : w87.cell? ⟨gb261, 0, none⟩ = some (.int .u64 0) := (blk_cell BK261.out 0).trans rfl; have hcz90_1 : w87.cell? ⟨gb261, 1, none⟩ = some (.int .u64 0) := (blk_cell BK261.out 1).trans rfl; have hcz90_2 : w87.cell? ⟨gb261, 2, none⟩ = some (.string (⟨#[]⟩ : ByteArray)) := (blk_cell BK261.out 2).trans rfl; have hfz90_0 := blk_frozen BK261.out 0; have hfz90_1 := blk_frozen BK261.out 1; have hfz90_2 := blk_frozen BK261.out 2) | ((with_reducible refine gate_dst (N := 6) rfl ?_); (try (refine gate_guard (by rfl) ?_; dsimp only)); refine box_event ?hg (N := 6) ?hd (cs := #[.int .u64 0, .string (⟨#[]⟩ : ByteArray)]) (t := 121) ?hr ?_; (case hd => rfl); (case hg => rfl); (case hr => first | (go_simp; done) | (go_simp; rfl)); intro gb262 hg w91 hbox hb; have n0_ := Aside0.mk (blk_below (g := gb258) (o := .cells #[.int .i64 a0_0, .int .u64 a0_1, .int .u64 a0_2, .slice A0_3 l0_3.length c0_3, .int .i64 a0_4, .slice (some ad260) l0_5.length c0_5] 46 (0, 0)) (by (with_reducible repeat (first | refine blk_drewN ?_ _ | refine blk_drew ?_ | refine blk_alloc ?_ _)); refine blk_far ?_ NB258_261.out _; (with_reducible repeat (first | refine blk_drewN ?_ _ | refine blk_drew ?_ | refine blk_alloc ?_ _)); refine blk_far ?_ NB258_261.out _; (with_reducible repeat (first | refine blk_drewN ?_ _ | refine blk_drew ?_ | refine blk_alloc ?_ _)); refine blk_far ?_ NB258_261.out _; (with_reducible repeat (first | refine blk_drewN ?_ _ | refine blk_drew ?_ | refine blk_alloc ?_ _)); exact BK258.out) hb); have n1_ := Aside0.mk (blk_below (g := gb259) (o := .cells #[.int .u64 x260000_2, .string x260001_2] 121 (0, 0)) (by (with_reducible repeat (first | refine blk_drewN ?_ _ | refine blk_drew ?_ | refine blk_alloc ?_ _)); refine blk_far ?_ NB259_261.out _; (with_reducible repeat (first | refine blk_drewN ?_ _ | refine blk_drew ?_ | refine blk_alloc ?_ _)); refine blk_far ?_ NB259_261.out _; (with_reducible repeat (first | refine blk_drewN ?_ _ | refine blk_drew ?_ | refine blk_alloc ?_ _)); refine blk_far ?_ NB259_261.out _; (with_reducible repeat (first | refine blk_drewN ?_ _ | refine blk_drew ?_ | refine blk_alloc ?_ _)); exact BK259.out) hb); have n2_ := Aside0.mk (blk_below (g := gb261) (o := .cells #[.int .u64 ((rd_T60 l0_5 x40_2).f0), .int .u64 ((rd_T60 l0_5 x40_2).f1), .string ((rd_T60 l0_5 x40_2).f2)] 60 (0, 0)) (by (with_reducible repeat (first | refine blk_drewN ?_ _ | refine blk_drew ?_ | refine blk_alloc ?_ _)); refine blk_put (cs := #[.int .u64 ((rd_T60 l0_5 x40_2).f0), .int .u64 ((rd_T60 l0_5 x40_2).f1), .string (⟨#[]⟩ : ByteArray)]) ?_ 2 _ rfl; (with_reducible repeat (first | refine blk_drewN ?_ _ | refine blk_drew ?_ | refine blk_alloc ?_ _)); refine blk_put (cs := #[.int .u64 ((rd_T60 l0_5 x40_2).f0), .int .u64 0, .string (⟨#[]⟩ : ByteArray)]) ?_ 1 _ rfl; (with_reducible repeat (first | refine blk_drewN ?_ _ | refine blk_drew ?_ | refine blk_alloc ?_ _)); refine blk_put (cs := #[.int .u64 0, .int .u64 0, .string (⟨#[]⟩ : ByteArray)]) ?_ 0 _ rfl; (with_reducible repeat (first | refine blk_drewN ?_ _ | refine blk_drew ?_ | refine blk_alloc ?_ _)); exact BK261.out) hb); have n3_ := Aside0.mk (below_step (by repeat (first | (with_reducible first | exact HB.out | apply below_alloc | apply pw_below_drewN | apply below_drew1 | refine below_set ?_ GE258.out | refine below_set ?_ GE259.out | refine below_set ?_ GE261.out) | exact HB.out)) hb); have n4_ := Aside0.mk (hbox); have n5_ := Aside0.mk ((by rw [hg]; exact (below_size (by repeat (first | (with_reducible first | exact HB.out | apply below_alloc | apply pw_below_drewN | apply below_drew1 | refine below_set ?_ GE258.out | refine below_set ?_ GE259.out | refine below_set ?_ GE261.out) | exact HB.out))) : w.heap.size ≤ gb262)); have n6_ := Aside0.mk ((by rw [hg]; exact (below_size (by repeat (first | (with_reducible first | exact HB.out | apply below_alloc | apply pw_below_drewN | apply below_drew1 | refine below_set ?_ GE258.out | refine below_set ?_ GE259.out | refine below_set ?_ GE261.out) | exact HB.out))) : w.heap.size ≤ gb262)); have n7_ := Aside0.mk ((by rw [hg]; exact Nat.ne_of_lt (blk_lt (g := gb258) (o := .cells #[.int .i64 a0_0, .int .u64 a0_1, .int .u64 a0_2, .slice A0_3 l0_3.length c0_3, .int .i64 a0_4, .slice (some ad260) l0_5.length c0_5] 46 (0, 0)) (by (with_reducible repeat (first | refine blk_drewN ?_ _ | refine blk_drew ?_ | refine blk_alloc ?_ _)); refine blk_far ?_ NB258_261.out _; (with_reducible repeat (first | refine blk_drewN ?_ _ | refine blk_drew ?_ | refine blk_alloc ?_ _)); refine blk_far ?_ NB258_261.out _; (with_reducible repeat (first | refine blk_drewN ?_ _ | refine blk_drew ?_ | refine blk_alloc ?_ _)); refine blk_far ?_ NB258_261.out _; (with_reducible repeat (first | refine blk_drewN ?_ _ | refine blk_drew ?_ | refine blk_alloc ?_ _)); exact BK258.out)) : gb258 ≠ gb262)); have n8_ := Aside0.mk ((by rw [hg]; exact Nat.ne_of_gt (blk_lt (g := gb258) (o := .cells #[.int .i64 a0_0, .int .u64 a0_1, .int .u64 a0_2, .slice A0_3 l0_3.length c0_3, .int .i64 a0_4, .slice (some ad260) l0_5.length c0_5] 46 (0, 0)) (by (with_reducible repeat (first | refine blk_drewN ?_ _ | refine blk_drew ?_ | refine blk_alloc ?_ _)); refine blk_far ?_ NB258_261.out _; (with_reducible repeat (first | refine blk_drewN ?_ _ | refine blk_drew ?_ | refine blk_alloc ?_ _)); refine blk_far ?_ NB258_261.out _; (with_reducible repeat (first | refine blk_drewN ?_ _ | refine blk_drew ?_ | refine blk_alloc ?_ _)); refine blk_far ?_ NB258_261.out _; (with_reducible repeat (first | refine blk_drewN ?_ _ | refine blk_drew ?_ | refine blk_alloc ?_ _)); exact BK258.out)) : gb262 ≠ gb258)); have n9_ := Aside0.mk ((by rw [hg]; exact Nat.ne_of_lt (blk_lt (g := gb259) (o := .cells #[.int .u64 x260000_2, .string x260001_2] 121 (0, 0)) (by (with_reducible repeat (first | refine blk_drewN ?_ _ | refine blk_drew ?_ | refine blk_alloc ?_ _)); refine blk_far ?_ NB259_261.out _; (with_reducible repeat (first | refine blk_drewN ?_ _ | refine blk_drew ?_ | refine blk_alloc ?_ _)); refine blk_far ?_ NB259_261.out _; (with_reducible repeat (first | refine blk_drewN ?_ _ | refine blk_drew ?_ | refine blk_alloc ?_ _)); refine blk_far ?_ NB259_261.out _; (with_reducible repeat (first | refine blk_drewN ?_ _ | refine blk_drew ?_ | refine blk_alloc ?_ _)); exact BK259.out)) : gb259 ≠ gb262)); have n10_ := Aside0.mk ((by rw [hg]; exact Nat.ne_of_gt (blk_lt (g := gb259) (o := .cells #[.int .u64 x260000_2, .string x260001_2] 121 (0, 0)) (by (with_reducible repeat (first | refine blk_drewN ?_ _ | refine blk_drew ?_ | refine blk_alloc ?_ _)); refine blk_far ?_ NB259_261.out _; (with_reducible repeat (first | refine blk_drewN ?_ _ | refine blk_drew ?_ | refine blk_alloc ?_ _)); refine blk_far ?_ NB259_261.out _; (with_reducible repeat (first | refine blk_drewN ?_ _ | refine blk_drew ?_ | refine blk_alloc ?_ _)); refine blk_far ?_ NB259_261.out _; (with_reducible repeat (first | refine blk_drewN ?_ _ | refine blk_drew ?_ | refine blk_alloc ?_ _)); exact BK259.out)) : gb262 ≠ gb259)); have n11_ := Aside0.mk ((by rw [hg]; exact Nat.ne_of_lt (blk_lt (g := gb261) (o := .cells #[.int .u64 ((rd_T60 l0_5 x40_2).f0), .int .u64 ((rd_T60 l0_5 x40_2).f1), .string ((rd_T60 l0_5 x40_2).f2)] 60 (0, 0)) (by (with_reducible repeat (first | refine blk_drewN ?_ _ | refine blk_drew ?_ | refine blk_alloc ?_ _)); refine blk_put (cs := #[.int .u64 ((rd_T60 l0_5 x40_2).f0), .int .u64 ((rd_T60 l0_5 x40_2).f1), .string (⟨#[]⟩ : ByteArray)]) ?_ 2 _ rfl; (with_reducible repeat (first | refine blk_drewN ?_ _ | refine blk_drew ?_ | refine blk_alloc ?_ _)); refine blk_put (cs := #[.int .u64 ((rd_T60 l0_5 x40_2).f0), .int .u64 0, .string (⟨#[]⟩ : ByteArray)]) ?_ 1 _ rfl; (with_reducible repeat (first | refine blk_drewN ?_ _ | refine blk_drew ?_ | refine blk_alloc ?_ _)); refine blk_put (cs := #[.int .u64 0, .int .u64 0, .string (⟨#[]⟩ : ByteArray)]) ?_ 0 _ rfl; (with_reducible repeat (first | refine blk_drewN ?_ _ | refine blk_drew ?_ | refine blk_alloc ?_ _)); exact BK261.out)) : gb261 ≠ gb262)); have n12_ := Aside0.mk ((by rw [hg]; exact Nat.ne_of_gt (blk_lt (g := gb261) (o := .cells #[.int .u64 ((rd_T60 l0_5 x40_2).f0), .int .u64 ((rd_T60 l0_5 x40_2).f1), .string ((rd_T60 l0_5 x40_2).f2)] 60 (0, 0)) (by (with_reducible repeat (first | refine blk_drewN ?_ _ | refine blk_drew ?_ | refine blk_alloc ?_ _)); refine blk_put (cs := #[.int .u64 ((rd_T60 l0_5 x40_2).f0), .int .u64 ((rd_T60 l0_5 x40_2).f1), .string (⟨#[]⟩ : ByteArray)]) ?_ 2 _ rfl; (with_reducible repeat (first | refine blk_drewN ?_ _ | refine blk_drew ?_ | refine blk_alloc ?_ _)); refine blk_put (cs := #[.int .u64 ((rd_T60 l0_5 x40_2).f0), .int .u64 0, .string (⟨#[]⟩ : ByteArray)]) ?_ 1 _ rfl; (with_reducible repeat (first | refine blk_drewN ?_ _ | refine blk_drew ?_ | refine blk_alloc ?_ _)); refine blk_put (cs := #[.int .u64 0, .int .u64 0, .string (⟨#[]⟩ : ByteArray)]) ?_ 0 _ rfl; (with_reducible repeat (first | refine blk_drewN ?_ _ | refine blk_drew ?_ | refine blk_alloc ?_ _)); exact BK261.out)) : gb262 ≠ gb261)); clear BK258; clear BK259; clear BK261; clear HB; have BK258 := n0_; have BK259 := n1_; have BK261 := n2_; have HB := n3_; have BK262 := n4_; have GW262 := n5_; have GE262 := n6_; have NB258_262 := n7_; have NB262_258 := n8_; have NB259_262 := n9_; have NB262_259 := n10_; have NB261_262 := n11_; have NB262_261 := n12_; clear n0_ n1_ n2_ n3_ n4_ n5_ n6_ n7_ n8_ n9_ n10_ n11_ n12_; clear hb hbox hg; have hnb92 := NB262_258.out; have hnc92 := NB258_262.out; have hnb93 := NB262_259.out; have hnc93 := NB259_262.out; have hnb94 := NB262_261.out; have hnc94 := NB261_262.out; have hcz95_0 : w91.cell? ⟨gb262, 0, none⟩ = some (.int .u64 0) := (blk_cell BK262.out 0).trans rfl; have hcz95_1 : w91.cell? ⟨gb262, 1, none⟩ = some (.string (⟨#[]⟩ : ByteArray)) := (blk_cell BK262.out 1).trans rfl; have hfz95_0 := blk_frozen BK262.out 0; have hfz95_1 := blk_frozen BK262.out 1; have hcz96_0 : w91.cell? ⟨gb261, 0, none⟩ = some (.int .u64 ((rd_T60 l0_5 x40_2).f0)) := (blk_cell BK261.out 0).trans rfl; have hcz96_1 : w91.cell? ⟨gb261, 1, none⟩ = some (.int .u64 ((rd_T60 l0_5 x40_2).f1)) := (blk_cell BK261.out 1).trans rfl; have hcz96_2 : w91.cell? ⟨gb261, 2, none⟩ = some (.string ((rd_T60 l0_5 x40_2).f2)) := (blk_cell BK261.out 2).trans rfl; have hfz96_0 := blk_frozen BK261.out 0; have hfz96_1 := blk_frozen BK261.out 1; have hfz96_2 := blk_frozen BK261.out 2) | (go_at_call 73; (with_reducible refine (image_goodKey.calls ((rd_T60 l0_5 x40_2).f2) false _ A55.out).mono ?_); rintro e w' ⟨rfl, ⟨nd, rfl⟩⟩))
                          go_ret
                          exact ⟨by first | rfl | (simp [errW_none, errW_some] <;> rfl) | (simp [*, errW_none, errW_some] <;> rfl), by repeat (first | (with_reducible first | exact HB.out | apply below_alloc | apply pw_below_drewN | apply below_drew1 | refine below_set ?_ GE258.out | refine below_set ?_ GE259.out | refine below_set ?_ GE261.out | refine below_set ?_ GE262.out) | exact HB.out)⟩
                · rw [if_neg c21] at H
                  exact absurd H (by simp)
              · rw [if_neg c20] at H
                exact absurd H (by simp)
            · rw [if_neg c19] at H
              have c19b0 : decide (x40_2 < (l0_5.length : Int)) = false := decide_eq_false c19
              clear c19
              obtain rfl := Option.some.inj H
              go_wp2
              go_ret
              exact ⟨by first | rfl | (simp [errW_none, errW_some] <;> rfl) | (simp [*, errW_none, errW_some] <;> rfl), by repeat (first | (with_reducible first | exact HB.out | apply below_alloc | apply pw_below_drewN | apply below_drew1 | refine below_set ?_ GE258.out | refine below_set ?_ GE259.out) | exact HB.out)⟩
end Go.Proofs.YtejjidggnnhgjaaDoor.PImg
/- The closure of DecodeDelta of layer 12, by the program. -/
set_option linter.unusedVariables false
set_option linter.unusedSimpArgs false
namespace Go.Proofs.YtejjidggnnhgjaaDoor.HImCe
open Go.RowKit Go.Proofs.YtejjidggnnhgjaaDoor.PImg Go.Proofs.YtejjidggnnhgjaaDoor.HBase Go.Proofs.YtejjidggnnhgjaaDoor.HBlob Go.Proofs.YtejjidggnnhgjaaDoor.HSum Go.Proofs.YtejjidggnnhgjaaDoor.HCk Go.Proofs.YtejjidggnnhgjaaDoor.HImgW Go.Proofs.YtejjidggnnhgjaaDoor.HImgR Go.Proofs.YtejjidggnnhgjaaDoor.HImgO Go.Proofs.YtejjidggnnhgjaaDoor.HImP Go.Proofs.YtejjidggnnhgjaaDoor.HImD Go.Proofs.YtejjidggnnhgjaaDoor.HImR2 Go.Proofs.YtejjidggnnhgjaaDoorW.PrintWords Go.Proofs.YtejjidggnnhgjaaDoorW.PrintLast Go.Proofs.YtejjidggnnhgjaaDoorW.PrintMore Go.Proofs.YtejjidggnnhgjaaDoor.HCore
def cells (r : Int × Int × List SE) (u : Value) : Array Value := #[.int .i64 r.1, .int .u64 0, .int .u64 0, .slice none 0 0, .int .i64 r.2.1, u]
/-- What the closure leaves. -/
def Left (w : World) (pb rb : Nat) (s : ByteArray) (D : Option ((Int × Int × List SE) × Int)) (e : Ending) (w' : World) : Prop :=
  Two pb rb w w' ∧ match D with
  | some rq => e = .returned (.tuple #[]) ∧ w'.heap[rb]? = some (Rd s rq.2) ∧ ∃ u, w'.heap[pb]? = some (.cells (cells rq.1 u) 46 (0, 0)) ∧ Kd.R k60 60 w' w.heap.size (fun _ => True) u rq.1.2.2
  | none => e = gives
theorem Left.gone {w w' : World} {pb rb : Nat} {s : ByteArray} {D : Option ((Int × Int × List SE) × Int)} (h : Two pb rb w w') (hD : D = none) : Left w pb rb s D gives w' := by subst hD; exact ⟨h, rfl⟩
theorem Left.read {w w' : World} {pb rb : Nat} {s : ByteArray} {D : Option ((Int × Int × List SE) × Int)} {r : Int × Int × List SE} {q : Int} {u : Value} (h : Two pb rb w w') (hD : D = some (r, q)) (h1 : w'.heap[rb]? = some (Rd s q)) (h2 : w'.heap[pb]? = some (.cells (cells r u) 46 (0, 0))) (h3 : Kd.R k60 60 w' w.heap.size (fun _ => True) u r.2.2) : Left w pb rb s D (.returned (.tuple #[])) w' := by subst hD; exact ⟨h, rfl, h1, u, h2, h3⟩
set_option maxRecDepth 100000 in
set_option maxHeartbeats 16000000 in
theorem inner (gd : ∀ (id gen : Int) (l : List SE), l.length ≤ 65536 → ∃ k, image_goodDelta.f k id 0 0 ([] : List SD) gen l = some (gdE id gen l)) (w : World) (pb rb : Nat) (s : ByteArray) (hs : s.size ≤ 4611686018427387904) (hpb : w.heap[pb]? = some (.cells #[.int .i64 0, .int .u64 0, .int .u64 0, .slice none 0 0, .int .i64 0, .slice none 0 0] 46 (0, 0))) (hrb : w.heap[rb]? = some (Rd s 0)) (hne : pb ≠ rb) :
    Calls Tryd.prog 53 #[.pointer (some ⟨rb, 0, none⟩), .pointer (some ⟨pb, 0, none⟩)] w fun e w' => Left w pb rb s (dcE s) e w' := by
  have HT : Aside0 (St k60 60 46 w pb rb rb s 0 #[.int .i64 0, .int .u64 0, .int .u64 0, .slice none 0 0, .int .i64 0, .slice none 0 0] (.slice none 0 0) [] w) := ⟨⟨Two.refl _ _ _, hpb, hrb, Kd.R_nil _ _ _ _ _, ⟨_, hpb⟩, ⟨_, hrb⟩, hne⟩⟩
  have HS := Aside0.mk hs
  have GD := Aside0.mk gd
  have hD : dcE s = _ := rfl
  conv at hD => rhs; unfold dcE
  have HD := Aside0.mk hD
  clear hD hpb hrb hs gd
  go_enter Tryd.func53, Tryd.ntmps53
  go_wp2_with fail
  rcases hr_id : nm s 0 99999999 with _ | ⟨id, q_id⟩
  · have HR := Aside0.mk hr_id
    have hD := HD.out
    rw [hr_id, Option.bind_none] at hD
    have HD := Aside0.mk hD
    clear hD hr_id
    refine (num_gone rb s 0 _ HT.out.rdr HS.out _ HR.out).mono ?_
    rintro e wg ⟨he, hd⟩
    unfold gives at he
    subst he
    have HL := Aside0.mk (Left.gone (s := s) (HT.out.drawn hd).two HD.out)
    clear hd
    go_wp2
    exact ⟨rfl, HL.out⟩
  obtain ⟨id_0, id_1, id_2, _⟩ := nm_drop hr_id
  have HR := Aside0.mk hr_id
  have hD := HD.out
  rw [hr_id, Option.bind_some] at hD
  simp only at hD
  have HD := Aside0.mk hD
  clear hD hr_id
  refine (num_ok rb s 0 _ HT.out.rdr HS.out _ _ _ HR.out).mono ?_
  rintro e w1 ⟨rfl, ht, hg⟩
  have HT := Aside0.mk (HT.out.reads ht hg)
  clear hg HR
  clear ht
  have c0 : _ = some (Value.int .i64 0) := (blk_cell HT.out.pair 0).trans rfl
  have c1 : _ = some (Value.int .u64 0) := (blk_cell HT.out.pair 1).trans rfl
  have c2 : _ = some (Value.int .u64 0) := (blk_cell HT.out.pair 2).trans rfl
  have c3 : _ = some (Value.slice none 0 0) := (blk_cell HT.out.pair 3).trans rfl
  have c4 : _ = some (Value.int .i64 0) := (blk_cell HT.out.pair 4).trans rfl
  have c5 : _ = some (Value.slice none 0 0) := (blk_cell HT.out.pair 5).trans rfl
  have f0 := blk_frozen HT.out.pair 0
  have HT : Aside0 (St k60 60 46 w pb rb rb s q_id #[.int .i64 id, .int .u64 0, .int .u64 0, .slice none 0 0, .int .i64 0, .slice none 0 0] (.slice none 0 0) [] (w1.setCell ⟨pb, 0, none⟩ (.int .i64 id))) := ⟨HT.out.put 0 _⟩
  go_wp2_with fail
  rcases hr_gen : nm s (q_id) 99999999 with _ | ⟨gen, q_gen⟩
  · have HR := Aside0.mk hr_gen
    have hD := HD.out
    rw [hr_gen, Option.bind_none] at hD
    have HD := Aside0.mk hD
    clear hD hr_gen
    refine (num_gone rb s (q_id) _ HT.out.rdr HS.out _ HR.out).mono ?_
    rintro e wg ⟨he, hd⟩
    unfold gives at he
    subst he
    have HL := Aside0.mk (Left.gone (s := s) (HT.out.drawn hd).two HD.out)
    clear hd
    go_wp2
    exact ⟨rfl, HL.out⟩
  obtain ⟨gen_0, gen_1, gen_2, _⟩ := nm_drop hr_gen
  have HR := Aside0.mk hr_gen
  have hD := HD.out
  rw [hr_gen, Option.bind_some] at hD
  simp only at hD
  have HD := Aside0.mk hD
  clear hD hr_gen
  clear c0 c1 c2 c3 c4 c5 f0
  refine (num_ok rb s (q_id) _ HT.out.rdr HS.out _ _ _ HR.out).mono ?_
  rintro e w2 ⟨rfl, ht, hg⟩
  have HT := Aside0.mk (HT.out.reads ht hg)
  clear hg HR
  clear ht
  have c0 : _ = some (Value.int .i64 id) := (blk_cell HT.out.pair 0).trans rfl
  have c1 : _ = some (Value.int .u64 0) := (blk_cell HT.out.pair 1).trans rfl
  have c2 : _ = some (Value.int .u64 0) := (blk_cell HT.out.pair 2).trans rfl
  have c3 : _ = some (Value.slice none 0 0) := (blk_cell HT.out.pair 3).trans rfl
  have c4 : _ = some (Value.int .i64 0) := (blk_cell HT.out.pair 4).trans rfl
  have c5 : _ = some (Value.slice none 0 0) := (blk_cell HT.out.pair 5).trans rfl
  have f4 := blk_frozen HT.out.pair 4
  have HT : Aside0 (St k60 60 46 w pb rb rb s q_gen #[.int .i64 id, .int .u64 0, .int .u64 0, .slice none 0 0, .int .i64 gen, .slice none 0 0] (.slice none 0 0) [] (w2.setCell ⟨pb, 4, none⟩ (.int .i64 gen))) := ⟨HT.out.put 4 _⟩
  go_wp2_with fail
  rcases hr_m : nm s (q_gen) 65536 with _ | ⟨m, q_m⟩
  · have HR := Aside0.mk hr_m
    have hD := HD.out
    rw [hr_m, Option.bind_none] at hD
    have HD := Aside0.mk hD
    clear hD hr_m
    refine (num_gone rb s (q_gen) _ HT.out.rdr HS.out _ HR.out).mono ?_
    rintro e wg ⟨he, hd⟩
    unfold gives at he
    subst he
    have HL := Aside0.mk (Left.gone (s := s) (HT.out.drawn hd).two HD.out)
    clear hd
    go_wp2
    exact ⟨rfl, HL.out⟩
  obtain ⟨m_0, m_1, m_2, _⟩ := nm_drop hr_m
  have HR := Aside0.mk hr_m
  have hD := HD.out
  rw [hr_m, Option.bind_some] at hD
  simp only at hD
  have HD := Aside0.mk hD
  clear hD hr_m
  clear c0 c1 c2 c3 c4 c5 f4
  refine (num_ok rb s (q_gen) _ HT.out.rdr HS.out _ _ _ HR.out).mono ?_
  rintro e w3 ⟨rfl, ht, hg⟩
  have HT := Aside0.mk (HT.out.reads ht hg)
  clear hg HR
  clear ht
  have c0 : _ = some (Value.int .i64 id) := (blk_cell HT.out.pair 0).trans rfl
  have c1 : _ = some (Value.int .u64 0) := (blk_cell HT.out.pair 1).trans rfl
  have c2 : _ = some (Value.int .u64 0) := (blk_cell HT.out.pair 2).trans rfl
  have c3 : _ = some (Value.slice none 0 0) := (blk_cell HT.out.pair 3).trans rfl
  have c4 : _ = some (Value.int .i64 gen) := (blk_cell HT.out.pair 4).trans rfl
  have c5 : _ = some (Value.slice none 0 0) := (blk_cell HT.out.pair 5).trans rfl
  obtain ⟨m, rfl⟩ := Int.eq_ofNat_of_zero_le m_0
  rw [Int.toNat_natCast] at HD
  go_wp2
  clear c0 c1 c2 c3 c4 c5
  have mm : m ≤ 65536 := by omega
  clear m_0 m_1 m_2
  go_loopw [3, 4] (fun v3 v4 wr => ∃ (m : Nat) (p last : Int) (u : Value) (l : List SE), v4 = .int .u64 (m : Int) ∧ v3 = .int .u64 last ∧ 0 ≤ last ∧ last ≤ 4611686018427387903 ∧ l.length + m ≤ 65536 ∧ Aside0 (St k60 60 46 w pb rb rb s p #[.int .i64 id, .int .u64 0, .int .u64 0, .slice none 0 0, .int .i64 gen, u] u l wr) ∧ Aside0 (dcE s = (rn (rcE s) nxE m last p l).bind (fun r => if gdE id gen r.1 = true then some ((id, gen, r.1), r.2) else none))) (fun _ v4 _ => (intOf v4).toNat)
  case atStart => exact ⟨m, q_m, 0, _, [], rfl, rfl, by omega, by omega, by rw [List.length_nil]; omega, HT, HD⟩
  case round =>
    clear HT HD mm
    obtain ⟨m, p, last, u, l, rfl, rfl, last_0, last_1, hl, HT, HD⟩ := hrel
    rcases m with _ | d
    · have hD := HD.out
      simp only [rn, Option.bind_some] at hD
      have HD := Aside0.mk hD
      clear hD
      obtain ⟨A, c, rfl, hc, hC⟩ := Kd.R_reads HT.out.own
      have HC := Aside0.mk hC
      clear hC
      have c0 : _ = some (Value.int .i64 id) := (blk_cell HT.out.pair 0).trans rfl
      have c1 : _ = some (Value.int .u64 0) := (blk_cell HT.out.pair 1).trans rfl
      have c2 : _ = some (Value.int .u64 0) := (blk_cell HT.out.pair 2).trans rfl
      have c3 : _ = some (Value.slice none 0 0) := (blk_cell HT.out.pair 3).trans rfl
      have c4 : _ = some (Value.int .i64 gen) := (blk_cell HT.out.pair 4).trans rfl
      have c5 : _ = some (Value.slice A l.length c) := (blk_cell HT.out.pair 5).trans rfl
      cases hgd : gdE id gen l
      · have hD := HD.out
        rw [hgd] at hD
        simp only [Bool.false_eq_true, if_false] at hD
        have HD := Aside0.mk hD
        clear hD
        obtain ⟨k, hk⟩ := GD.out id gen l (by omega)
        rw [hgd] at hk
        have HK := Aside0.mk hk
        clear hk hgd
        go_wp2_with fail
        clear c0 c1 c2 c3 c4 c5
        refine (image_goodDelta.calls k id 0 0 none 0 [] gen A c l false _ (Kd.C_nil _ _) (Nat.le_refl _) HC.out hc HK.out).mono ?_
        rintro e wq ⟨rfl, hb⟩
        have HT := Aside0.mk (HT.out.below hb)
        clear hb HC HK
        go_wp2_with fail
        refine (need_gone _).mono ?_
        rintro e wz ⟨he, rfl⟩
        unfold gives at he
        subst he
        have HL := Aside0.mk (Left.gone (s := s) HT.out.two HD.out)
        go_wp2
        exact ⟨rfl, HL.out⟩
      · have hD := HD.out
        rw [hgd] at hD
        simp only [if_pos] at hD
        have HD := Aside0.mk hD
        clear hD
        obtain ⟨k, hk⟩ := GD.out id gen l (by omega)
        rw [hgd] at hk
        have HK := Aside0.mk hk
        clear hk hgd
        go_wp2_with fail
        clear c0 c1 c2 c3 c4 c5
        refine (image_goodDelta.calls k id 0 0 none 0 [] gen A c l true _ (Kd.C_nil _ _) (Nat.le_refl _) HC.out hc HK.out).mono ?_
        rintro e wq ⟨rfl, hb⟩
        have HT := Aside0.mk (HT.out.below hb)
        clear hb HC HK
        go_wp2_with fail
        refine (need_ok _).mono ?_
        rintro e wz ⟨rfl, rfl⟩
        go_wp2
        go_end0
        exact Left.read HT.out.two HD.out HT.out.rdr HT.out.pair (Kd.R_mono HT.out.own (fun _ _ => trivial))
    have hD := HD.out
    simp only [rn, rcE, Option.bind_assoc, Option.bind_some] at hD
    have HD := Aside0.mk hD
    clear hD
    rw [show ((d + 1 : Nat) : Int) = (d : Int) + 1 by omega]
    have c0 : _ = some (Value.int .i64 id) := (blk_cell HT.out.pair 0).trans rfl
    have c1 : _ = some (Value.int .u64 0) := (blk_cell HT.out.pair 1).trans rfl
    have c2 : _ = some (Value.int .u64 0) := (blk_cell HT.out.pair 2).trans rfl
    have c3 : _ = some (Value.slice none 0 0) := (blk_cell HT.out.pair 3).trans rfl
    have c4 : _ = some (Value.int .i64 gen) := (blk_cell HT.out.pair 4).trans rfl
    have c5 : _ = some u := (blk_cell HT.out.pair 5).trans rfl
    go_wp2_with fail
    rcases hr_a : nm s p (4611686018427387903 - last) with _ | ⟨a, q_a⟩
    · have HR := Aside0.mk hr_a
      have hD := HD.out
      rw [hr_a, Option.bind_none] at hD
      have HD := Aside0.mk hD
      clear hD hr_a
      refine (num_gone rb s p _ HT.out.rdr HS.out _ HR.out).mono ?_
      rintro e wg ⟨he, hd⟩
      unfold gives at he
      subst he
      have HL := Aside0.mk (Left.gone (s := s) (HT.out.drawn hd).two HD.out)
      clear hd
      go_wp2
      exact ⟨rfl, HL.out⟩
    obtain ⟨a_0, a_1, a_2, _⟩ := nm_drop hr_a
    have HR := Aside0.mk hr_a
    have hD := HD.out
    rw [hr_a, Option.bind_some] at hD
    simp only at hD
    have HD := Aside0.mk hD
    clear hD hr_a
    clear c0 c1 c2 c3 c4 c5
    refine (num_ok rb s p _ HT.out.rdr HS.out _ _ _ HR.out).mono ?_
    rintro e w4 ⟨rfl, ht, hg⟩
    have HT := Aside0.mk (HT.out.reads ht hg)
    clear hg HR
    clear ht
    have HV := Aside0.mk (heap_alloc_new w4 (.cells #[.int .u64 (last + a), .int .u64 0, .string (⟨#[]⟩ : ByteArray)] 60))
    have hnb : w.heap.size ≤ w4.heap.size := HT.out.two.size
    have hnr : w4.heap.size ≠ rb := Nat.ne_of_gt (blk_lt HT.out.rdr)
    have HT := Aside0.mk (HT.out.new (.cells #[.int .u64 (last + a), .int .u64 0, .string (⟨#[]⟩ : ByteArray)] 60))
    have c0 : _ = some (Value.int .i64 id) := (blk_cell HT.out.pair 0).trans rfl
    have c1 : _ = some (Value.int .u64 0) := (blk_cell HT.out.pair 1).trans rfl
    have c2 : _ = some (Value.int .u64 0) := (blk_cell HT.out.pair 2).trans rfl
    have c3 : _ = some (Value.slice none 0 0) := (blk_cell HT.out.pair 3).trans rfl
    have c4 : _ = some (Value.int .i64 gen) := (blk_cell HT.out.pair 4).trans rfl
    have c5 : _ = some u := (blk_cell HT.out.pair 5).trans rfl
    go_wp2_with fail
    rcases hr_b : nm s (q_a) (4611686018427387903 - (last + a)) with _ | ⟨b, q_b⟩
    · have HR := Aside0.mk hr_b
      have hD := HD.out
      rw [hr_b, Option.bind_none] at hD
      have HD := Aside0.mk hD
      clear hD hr_b
      refine (num_gone rb s (q_a) _ HT.out.rdr HS.out _ HR.out).mono ?_
      rintro e wg ⟨he, hd⟩
      unfold gives at he
      subst he
      have HL := Aside0.mk (Left.gone (s := s) (HT.out.drawn hd).two HD.out)
      clear hd
      go_wp2
      exact ⟨rfl, HL.out⟩
    obtain ⟨b_0, b_1, b_2, _⟩ := nm_drop hr_b
    have HR := Aside0.mk hr_b
    have hD := HD.out
    rw [hr_b, Option.bind_some] at hD
    simp only at hD
    have HD := Aside0.mk hD
    clear hD hr_b
    clear c0 c1 c2 c3 c4 c5
    refine (num_ok rb s (q_a) _ HT.out.rdr HS.out _ _ _ HR.out).mono ?_
    rintro e w5 ⟨rfl, ht, hg⟩
    have HT := Aside0.mk (HT.out.reads ht hg)
    clear hg HR
    have HV := Aside0.mk (ht.blk HV.out hnr)
    clear ht
    generalize w4.heap.size = nb at HV HT hnb hnr ⊢
    have y0 : _ = some (Value.int .u64 (last + a)) := (blk_cell HV.out 0).trans rfl
    have y1 : _ = some (Value.int .u64 0) := (blk_cell HV.out 1).trans rfl
    have y2 : _ = some (Value.string (⟨#[]⟩ : ByteArray)) := (blk_cell HV.out 2).trans rfl
    have g1 := blk_frozen HV.out 1
    have c0 : _ = some (Value.int .i64 id) := (blk_cell HT.out.pair 0).trans rfl
    have c1 : _ = some (Value.int .u64 0) := (blk_cell HT.out.pair 1).trans rfl
    have c2 : _ = some (Value.int .u64 0) := (blk_cell HT.out.pair 2).trans rfl
    have c3 : _ = some (Value.slice none 0 0) := (blk_cell HT.out.pair 3).trans rfl
    have c4 : _ = some (Value.int .i64 gen) := (blk_cell HT.out.pair 4).trans rfl
    have c5 : _ = some u := (blk_cell HT.out.pair 5).trans rfl
    have HV : Aside0 ((w5.setCell ⟨nb, 1, none⟩ (.int .u64 (last + a + b))).heap[nb]? = some (.cells #[.int .u64 (last + a), .int .u64 (last + a + b), .string (⟨#[]⟩ : ByteArray)] 60 (0, 0))) := ⟨(blk_set HV.out 1 (.int .u64 (last + a + b))).trans rfl⟩
    have HT := Aside0.mk (HT.out.far hnb 1 (.int .u64 (last + a + b)))
    go_wp2_with fail
    clear y0 y1 y2 g1
    clear c0 c1 c2 c3 c4 c5
    rcases hr_key : tx s (q_b) 1 160 with _ | ⟨key, q_key⟩
    · have HR := Aside0.mk hr_key
      have hD := HD.out
      rw [hr_key, Option.bind_none] at hD
      have HD := Aside0.mk hD
      clear hD hr_key
      refine (txt_gone rb s (q_b) _ HT.out.rdr HS.out _ _ HR.out).mono ?_
      rintro e wg ⟨he, hd⟩
      unfold gives at he
      subst he
      have HL := Aside0.mk (Left.gone (s := s) (HT.out.drawn hd).two HD.out)
      clear hd
      go_wp2
      exact ⟨rfl, HL.out⟩
    have HR := Aside0.mk hr_key
    have hD := HD.out
    rw [hr_key, Option.bind_some] at hD
    simp only at hD
    have HD := Aside0.mk hD
    clear hD hr_key
    refine (txt_ok rb s (q_b) _ HT.out.rdr HS.out _ _ _ _ HR.out).mono ?_
    rintro e w6 ⟨rfl, ht, hg⟩
    have HT := Aside0.mk (HT.out.reads ht hg)
    clear hg HR
    have HV := Aside0.mk (ht.blk HV.out hnr)
    clear ht
    have y0 : _ = some (Value.int .u64 (last + a)) := (blk_cell HV.out 0).trans rfl
    have y1 : _ = some (Value.int .u64 (last + a + b)) := (blk_cell HV.out 1).trans rfl
    have y2 : _ = some (Value.string (⟨#[]⟩ : ByteArray)) := (blk_cell HV.out 2).trans rfl
    have g2 := blk_frozen HV.out 2
    have c0 : _ = some (Value.int .i64 id) := (blk_cell HT.out.pair 0).trans rfl
    have c1 : _ = some (Value.int .u64 0) := (blk_cell HT.out.pair 1).trans rfl
    have c2 : _ = some (Value.int .u64 0) := (blk_cell HT.out.pair 2).trans rfl
    have c3 : _ = some (Value.slice none 0 0) := (blk_cell HT.out.pair 3).trans rfl
    have c4 : _ = some (Value.int .i64 gen) := (blk_cell HT.out.pair 4).trans rfl
    have c5 : _ = some u := (blk_cell HT.out.pair 5).trans rfl
    have HV : Aside0 ((w6.setCell ⟨nb, 2, none⟩ (.string key)).heap[nb]? = some (.cells #[.int .u64 (last + a), .int .u64 (last + a + b), .string key] 60 (0, 0))) := ⟨(blk_set HV.out 2 (.string key)).trans rfl⟩
    have HT := Aside0.mk (HT.out.far hnb 2 (.string key))
    have HW : Aside0 (∃ W, W = w6.setCell ⟨nb, 2, none⟩ (.string key)) := ⟨_, rfl⟩
    clear HW
    go_upto_region 10 with (fail)
    clear y0 y1 y2 g2
    clear c0 c1 c2 c3 c4 c5
    have y0 : _ = some (Value.int .u64 (last + a)) := (blk_cell HV.out 0).trans rfl
    have y1 : _ = some (Value.int .u64 (last + a + b)) := (blk_cell HV.out 1).trans rfl
    have y2 : _ = some (Value.string key) := (blk_cell HV.out 2).trans rfl
    have c0 : _ = some (Value.int .i64 id) := (blk_cell HT.out.pair 0).trans rfl
    have c1 : _ = some (Value.int .u64 0) := (blk_cell HT.out.pair 1).trans rfl
    have c2 : _ = some (Value.int .u64 0) := (blk_cell HT.out.pair 2).trans rfl
    have c3 : _ = some (Value.slice none 0 0) := (blk_cell HT.out.pair 3).trans rfl
    have c4 : _ = some (Value.int .i64 gen) := (blk_cell HT.out.pair 4).trans rfl
    have c5 : _ = some u := (blk_cell HT.out.pair 5).trans rfl
    have f5 := blk_frozen HT.out.pair 5
    have HTo := HT
    go_wp2_with ((with_reducible refine gate_builtin (b := .append) (xs := #[.tmp 39, .tmp 41]) rfl ?_); go_loud (at_builtin; refine Kd.R_append k60 (w0 := w6.setCell ⟨nb, 2, none⟩ (.string key)) w.heap.size rfl (.tmp 39) (.tmp 41) 44 60 (.agg #[.int .u64 0, .int .u64 0, .string ⟨#[]⟩]) 32 rfl Tryd.underlying44 info60 rfl (by decide) (by omega) u l (⟨last + a, last + a + b, key⟩ : SE) [.int .u64 (last + a), .int .u64 (last + a + b), .string key] (fun k => k ≠ nb) (fun _ => False) rfl (by first | (go_simp; done) | (go_simp; rfl)) ?aP (fun _ hk => hk.elim) ?aF ?aO ?aB ?aS ?aL ?_; (case aP => exact k60_mkM _ _ _ (⟨last + a, last + a + b, key⟩ : SE)); (case aF => exact (fun k hk => Nat.ne_of_gt (Nat.lt_of_lt_of_le (blk_lt HV.out) hk))); (case aO => exact HT.out.own); (case aB => exact Below.refl _ _); (case aS => exact HT.out.two.size); (case aL => omega); clear c0 c1 c2 c3 c4 c5 f5 y0 y1 y2; intro u' w99 ho hb hg hat; obtain ⟨A', c', rfl⟩ := Kd.R_slice ho; have HT := Aside0.mk (HT.out.more hb hg ho 5); have c5 : _ = some u := (blk_cell ((hb.block _ (blk_lt HT.out.elp.choose_spec)).trans HTo.out.pair) 5).trans rfl; have f5 := blk_frozen ((hb.block _ (blk_lt HT.out.elp.choose_spec)).trans HTo.out.pair) 5; clear ho hb hg hat))
    have hlen : (l ++ [(⟨last + a, last + a + b, key⟩ : SE)]).length = l.length + 1 := by rw [List.length_append, List.length_singleton]
    rw [hlen] at HT
    clear hlen
    go_roundw
    case rel => exact ⟨d, q_key, last + a, .slice A' (l.length + 1) c', l ++ [(⟨last + a, last + a + b, key⟩ : SE)], by go_num, rfl, by omega, by omega, by rw [List.length_append, List.length_singleton]; omega, ⟨HT.out.free⟩, HD⟩
    case measure => simp [intOf]
end Go.Proofs.YtejjidggnnhgjaaDoor.HImCe
/- DecodeDelta of layer 12, by the program. -/
set_option linter.unusedVariables false
set_option linter.unusedSimpArgs false
namespace Go.Proofs.YtejjidggnnhgjaaDoor.HImDe
open Go.RowKit Go.Proofs.YtejjidggnnhgjaaDoor.PImg Go.Proofs.YtejjidggnnhgjaaDoor.HBase Go.Proofs.YtejjidggnnhgjaaDoor.HBlob Go.Proofs.YtejjidggnnhgjaaDoor.HSum Go.Proofs.YtejjidggnnhgjaaDoor.HCk Go.Proofs.YtejjidggnnhgjaaDoor.HImgW Go.Proofs.YtejjidggnnhgjaaDoor.HImgR Go.Proofs.YtejjidggnnhgjaaDoor.HImgO Go.Proofs.YtejjidggnnhgjaaDoor.HImP Go.Proofs.YtejjidggnnhgjaaDoor.HImD Go.Proofs.YtejjidggnnhgjaaDoor.HImE Go.Proofs.YtejjidggnnhgjaaDoor.HImR2 Go.Proofs.YtejjidggnnhgjaaDoor.HImCe Go.Proofs.YtejjidggnnhgjaaDoorW.PrintWords Go.Proofs.YtejjidggnnhgjaaDoorW.PrintLast Go.Proofs.YtejjidggnnhgjaaDoorW.PrintMore Go.Proofs.YtejjidggnnhgjaaDoor.HCore
/-- What a file is read as, and the error. -/
def res (b : ByteArray) : Option (Int × Int × List SE) := if opn b ltE = 0 then (dcE (ins b)).bind fun x => if x.2 = ((ins b).size : Int) then some x.1 else none else none
def val (b : ByteArray) : Int × Int × List SE := (res b).getD (0, 0, [])
def code (b : ByteArray) : Int := if opn b ltE = 0 then (if (res b).isSome then 0 else 125) else opn b ltE
theorem out_val {b : ByteArray} (h : ¬ opn b ltE = 0) : val b = (0, 0, []) ∧ code b = opn b ltE := by unfold val code res; rw [if_neg h, if_neg h]; exact ⟨rfl, rfl⟩
theorem none_val {b : ByteArray} (h : opn b ltE = 0) (hd : dcE (ins b) = none) : val b = (0, 0, []) ∧ code b = 125 := by unfold val code res; rw [if_pos h, if_pos h, hd]; exact ⟨rfl, rfl⟩
theorem short_val {b : ByteArray} {x : (Int × Int × List SE) × Int} (h : opn b ltE = 0) (hd : dcE (ins b) = some x) (hx : ¬ x.2 = ((ins b).size : Int)) : val b = (0, 0, []) ∧ code b = 125 := by unfold val code res; rw [if_pos h, if_pos h, hd, Option.bind_some, if_neg hx]; exact ⟨rfl, rfl⟩
theorem some_val {b : ByteArray} {x : (Int × Int × List SE) × Int} (h : opn b ltE = 0) (hd : dcE (ins b) = some x) (hx : x.2 = ((ins b).size : Int)) : val b = x.1 ∧ code b = 0 := by unfold val code res; rw [if_pos h, if_pos h, hd, Option.bind_some, if_pos hx]; exact ⟨rfl, rfl⟩
theorem ins_le (b : ByteArray) (hb : b.size ≤ 140737488355328) : (ins b).size ≤ 4611686018427387904 := by
  unfold ins
  rw [← size_list, extract_list, extract_list, List.length_take, List.length_drop, List.length_take, List.drop_zero, size_list]
  omega
/-- What stands around the closure. -/
def Qc (w2 : World) (pb : Nat) (b : ByteArray) (W1 : World) (rb : Nat) (e0 : Ending) (w1 : World) : Prop :=
  Below w2.heap.size w2 W1 ∧ w2.heap.size < rb ∧ W1.heap[w2.heap.size]? = some (.cells #[.int .i64 0] 27 (0, 0)) ∧ HImCe.Left W1 pb rb (ins b) (dcE (ins b)) e0 w1
theorem left_or {w w' : World} {pb rb : Nat} {s : ByteArray} {D : Option ((Int × Int × List SE) × Int)} {e : Ending} (h : HImCe.Left w pb rb s D e w') : e = gives ∨ (e = .returned (.tuple #[]) ∧ ∃ q, w'.heap[rb]? = some (Rd s q)) := by
  obtain ⟨_, h⟩ := h
  cases D with
  | none => exact Or.inl h
  | some r => exact Or.inr ⟨h.1, _, h.2.1⟩
set_option maxRecDepth 100000 in
set_option maxHeartbeats 8000000 in
theorem dec_any (gd : ∀ (id gen : Int) (l : List SE), l.length ≤ 65536 → ∃ k, image_goodDelta.f k id 0 0 ([] : List SD) gen l = some (gdE id gen l)) (b : ByteArray) (w : World) (hb : b.size ≤ 140737488355328) (hT : Tab w) :
    Calls Tryd.prog 20 #[.string b] w fun e w' => ∃ u, e = .returned (.tuple #[.agg (cells (val b) u), .int .i64 (code b)]) ∧ Kd.R k60 60 w' w.heap.size (fun _ => True) u (val b).2.2 ∧ Below w.heap.size w w' := by
  obtain ⟨w2, e2⟩ : ∃ w2, w2 = (w.alloc (.cells #[.int .i64 0, .int .u64 0, .int .u64 0, .slice none 0 0, .int .i64 0, .slice none 0 0] 46)).alloc (.cells #[.int .i64 0, .int .u64 0, .int .u64 0, .slice none 0 0, .int .i64 0, .slice none 0 0] 46) := ⟨_, rfl⟩
  have z2 : w2.heap.size = w.heap.size + 2 := by rw [e2]; simp
  have b0 : w2.heap[w.heap.size]? = some (.cells #[.int .i64 0, .int .u64 0, .int .u64 0, .slice none 0 0, .int .i64 0, .slice none 0 0] 46 (0, 0)) := by rw [e2]; exact (heap_alloc_old _ _ (by simp)).trans (heap_alloc_new _ _)
  have b1 : w2.heap[w.heap.size + 1]? = some (.cells #[.int .i64 0, .int .u64 0, .int .u64 0, .slice none 0 0, .int .i64 0, .slice none 0 0] 46 (0, 0)) := by rw [e2]; simpa using heap_alloc_new (w.alloc (.cells #[.int .i64 0, .int .u64 0, .int .u64 0, .slice none 0 0, .int .i64 0, .slice none 0 0] 46)) (.cells #[.int .i64 0, .int .u64 0, .int .u64 0, .slice none 0 0, .int .i64 0, .slice none 0 0] 46)
  have hb2 : Below w.heap.size w w2 := by rw [e2]; exact below_alloc (below_alloc (Below.refl _ _) _) _
  have HB := Aside0.mk hb2
  have HT := Aside0.mk (hT.below hb2)
  have E2 := Aside0.mk e2
  have HZ := Aside0.mk z2
  have hmf : ∀ (fn : Fn) (first cap : Array Value) (w : World), (Instr.makeFunc fn first cap).run Tryd.prog w = .ok (.func fn first cap) w := fun _ _ _ _ => rfl
  by_cases ho : opn b ltE = 0
  · have HI := Aside0.mk (del_in b ltE #[.pointer (some ⟨w.heap.size + 1, 0, none⟩)] w2 hb HT.out ho (Qc w2 (w.heap.size + 1) b)
      (fun W1 rb h1 h2 h3 h4 => (inner gd W1 (w.heap.size + 1) rb (ins b) (ins_le b hb) ((h1.block _ (by omega)).trans b1) h3 (by omega)).mono (fun e w' hl => ⟨h1, h2, h4, hl⟩))
      (fun W1 rb e0 w1 h => ⟨(h.2.2.2.1.block _ (blk_lt h.2.2.1) (by omega) (by have := h.2.1; omega)).trans h.2.2.1, left_or h.2.2.2⟩))
    have H0 := Aside0.mk b0
    have HO0 := Aside0.mk ho
    clear b0 b1 z2 e2 hb2 hT ho gd
    go_enter Tryd.func20, Tryd.ntmps20
    go_wp2_with fail
    rw [← E2.out]
    refine HI.out.mono ?_
    rintro e w4 ⟨c, rfl, W1, rb, e0, w1, ⟨h1, h2, h3, hL⟩, _, hTn, hor⟩
    have hz := HZ.out
    have hz1 := h1.size
    have hz2 := hL.1.size
    have r1 : w4.heap[w.heap.size]? = some (.cells #[.int .i64 0, .int .u64 0, .int .u64 0, .slice none 0 0, .int .i64 0, .slice none 0 0] 46 (0, 0)) := hTn.blk ((hL.1.block _ (by omega) (by omega) (by omega)).trans ((h1.block _ (by omega)).trans H0.out)) (by omega)
    have hB4 : Below w.heap.size w w4 := (HB.out.trans (h1.mono (by omega))).trans ⟨hTn.os.trans hL.1.os, hTn.tape.trans hL.1.tape, hTn.output.trans hL.1.output, Nat.le_trans hL.1.size hTn.size, fun k hk => (hTn.block k (by omega) (by omega)).trans (hL.1.block k (by omega) (by omega) (by omega))⟩
    have HB := Aside0.mk hB4
    have HR1 := Aside0.mk r1
    clear hB4 r1
    have hne : (Ending.returned (.tuple #[])) ≠ gives := fun h => by unfold gives at h; cases h
    cases hD : dcE (ins b) with
    | none =>
      rw [hD] at hL
      have hc : c = 125 := by rcases hor with ⟨_, h⟩ | ⟨h, _⟩; exact h; exact absurd (h.symm.trans hL.2) hne
      subst hc
      have HV := Aside0.mk (none_val HO0.out hD)
      clear hD hL hTn hor hz hz1 hz2 h1 h2 h3 hne
      have d0 : _ = some (Value.int .i64 0) := (blk_cell HR1.out 0).trans rfl
      have d1 : _ = some (Value.int .u64 0) := (blk_cell HR1.out 1).trans rfl
      have d2 : _ = some (Value.int .u64 0) := (blk_cell HR1.out 2).trans rfl
      have d3 : _ = some (Value.slice none 0 0) := (blk_cell HR1.out 3).trans rfl
      have d4 : _ = some (Value.int .i64 0) := (blk_cell HR1.out 4).trans rfl
      have d5 : _ = some (Value.slice none 0 0) := (blk_cell HR1.out 5).trans rfl
      have f0 := blk_frozen HR1.out 0
      have f1 := blk_frozen HR1.out 1
      have f2 := blk_frozen HR1.out 2
      have f3 := blk_frozen HR1.out 3
      have f4 := blk_frozen HR1.out 4
      have f5 := blk_frozen HR1.out 5
      go_wp2_with fail
      refine bodyPost_ret (v := .tuple #[.agg #[.int .i64 0, .int .u64 0, .int .u64 0, .slice none 0 0, .int .i64 0, .slice none 0 0], .int .i64 125]) (results_ct (fn := Tryd.f20) rfl _ _ w.heap.size 46 #[.int .i64 0, .int .u64 0, .int .u64 0, .slice none 0 0, .int .i64 0, .slice none 0 0] (0, 0) _ rfl (by exact (blk_set ((blk_set ((blk_set ((blk_set ((blk_set ((blk_set HR1.out 0 (.int .i64 0)).trans rfl) 1 (.int .u64 0)).trans rfl) 2 (.int .u64 0)).trans rfl) 3 (.slice none 0 0)).trans rfl) 4 (.int .i64 0)).trans rfl) 5 (.slice none 0 0)).trans rfl) Tryd.underlying46 rfl (by kernel_rfl)) rfl ?_
      refine ⟨_, by rw [HV.out.1, HV.out.2]; rfl, ?_, ((((((HB.out.setCell (p := ⟨w.heap.size, 0, none⟩) (Nat.le_refl _) _).setCell (p := ⟨w.heap.size, 1, none⟩) (Nat.le_refl _) _).setCell (p := ⟨w.heap.size, 2, none⟩) (Nat.le_refl _) _).setCell (p := ⟨w.heap.size, 3, none⟩) (Nat.le_refl _) _).setCell (p := ⟨w.heap.size, 4, none⟩) (Nat.le_refl _) _).setCell (p := ⟨w.heap.size, 5, none⟩) (Nat.le_refl _) _)⟩
      rw [HV.out.1]
      exact Kd.R_nil _ _ _ _ _
    | some x =>
      obtain ⟨r, qq⟩ := x
      rw [hD] at hL
      obtain ⟨hT2, he0, hrd, u, hu, hown⟩ := hL
      subst he0
      simp only at hrd hu hown
      have hc : c = if qq = ((ins b).size : Int) then 0 else 125 := by
        rcases hor with ⟨h, _⟩ | ⟨_, q', hq, hc⟩
        · exact absurd h hne
        · rw [hrd] at hq
          have e := Option.some.inj hq
          injection e with e
          have e2 := congrArg (fun a => a[1]?) e
          simp at e2
          rw [hc, e2]
      by_cases hq : qq = ((ins b).size : Int)
      · rw [if_pos hq] at hc
        subst hc
        have HV := Aside0.mk (some_val HO0.out hD hq)
        have r2 : w4.heap[w.heap.size + 1]? = some (.cells (cells r u) 46 (0, 0)) := hTn.blk hu (by omega)
        have ho : Kd.R k60 60 w4 w.heap.size (fun _ => True) u r.2.2 := Kd.R_lower (Kd.R_mono (Kd.R_keep (g := w2.heap.size) (Kd.R_newB hown h3) ⟨hTn.size, fun i hi hg _ => hTn.block i hi hg⟩ (fun _ hk => hk.2)) (fun _ _ => trivial)) (by omega)
        obtain ⟨A, cc, rfl⟩ := Kd.R_slice ho
        have HO := Aside0.mk ho
        have HR2 := Aside0.mk r2
        clear hD hT2 hrd hu hown hTn hor hz hz1 hz2 h1 h2 h3 hne hq ho r2
        have c0 : _ = some (Value.int .i64 r.1) := (blk_cell HR2.out 0).trans rfl
        have c1 : _ = some (Value.int .u64 0) := (blk_cell HR2.out 1).trans rfl
        have c2 : _ = some (Value.int .u64 0) := (blk_cell HR2.out 2).trans rfl
        have c3 : _ = some (Value.slice none 0 0) := (blk_cell HR2.out 3).trans rfl
        have c4 : _ = some (Value.int .i64 r.2.1) := (blk_cell HR2.out 4).trans rfl
        have c5 : _ = some (Value.slice A r.2.2.length cc) := (blk_cell HR2.out 5).trans rfl
        have d0 : _ = some (Value.int .i64 0) := (blk_cell HR1.out 0).trans rfl
        have d1 : _ = some (Value.int .u64 0) := (blk_cell HR1.out 1).trans rfl
        have d2 : _ = some (Value.int .u64 0) := (blk_cell HR1.out 2).trans rfl
        have d3 : _ = some (Value.slice none 0 0) := (blk_cell HR1.out 3).trans rfl
        have d4 : _ = some (Value.int .i64 0) := (blk_cell HR1.out 4).trans rfl
        have d5 : _ = some (Value.slice none 0 0) := (blk_cell HR1.out 5).trans rfl
        have f0 := blk_frozen HR1.out 0
        have f1 := blk_frozen HR1.out 1
        have f2 := blk_frozen HR1.out 2
        have f3 := blk_frozen HR1.out 3
        have f4 := blk_frozen HR1.out 4
        have f5 := blk_frozen HR1.out 5
        go_wp2_with fail
        refine bodyPost_ret (v := .tuple #[.agg #[.int .i64 r.1, .int .u64 0, .int .u64 0, .slice none 0 0, .int .i64 r.2.1, .slice A r.2.2.length cc], .int .i64 0]) (results_ct (fn := Tryd.f20) rfl _ _ w.heap.size 46 #[.int .i64 r.1, .int .u64 0, .int .u64 0, .slice none 0 0, .int .i64 r.2.1, .slice A r.2.2.length cc] (0, 0) _ rfl (by exact (blk_set ((blk_set ((blk_set ((blk_set ((blk_set ((blk_set HR1.out 0 (.int .i64 r.1)).trans rfl) 1 (.int .u64 0)).trans rfl) 2 (.int .u64 0)).trans rfl) 3 (.slice none 0 0)).trans rfl) 4 (.int .i64 r.2.1)).trans rfl) 5 (.slice A r.2.2.length cc)).trans rfl) Tryd.underlying46 rfl (by kernel_rfl)) rfl ?_
        refine ⟨_, by rw [HV.out.1, HV.out.2]; rfl, ?_, ((((((HB.out.setCell (p := ⟨w.heap.size, 0, none⟩) (Nat.le_refl _) _).setCell (p := ⟨w.heap.size, 1, none⟩) (Nat.le_refl _) _).setCell (p := ⟨w.heap.size, 2, none⟩) (Nat.le_refl _) _).setCell (p := ⟨w.heap.size, 3, none⟩) (Nat.le_refl _) _).setCell (p := ⟨w.heap.size, 4, none⟩) (Nat.le_refl _) _).setCell (p := ⟨w.heap.size, 5, none⟩) (Nat.le_refl _) _)⟩
        rw [HV.out.1]
        exact Kd.R_mono (Kd.R_far (p := ⟨w.heap.size, 5, none⟩) (Kd.R_far (p := ⟨w.heap.size, 4, none⟩) (Kd.R_far (p := ⟨w.heap.size, 3, none⟩) (Kd.R_far (p := ⟨w.heap.size, 2, none⟩) (Kd.R_far (p := ⟨w.heap.size, 1, none⟩) (Kd.R_far (p := ⟨w.heap.size, 0, none⟩) (Kd.R_types HO.out HR1.out (by decide)) (fun _ hk => hk.2) _) (fun _ hk => hk.2) _) (fun _ hk => hk.2) _) (fun _ hk => hk.2) _) (fun _ hk => hk.2) _) (fun _ hk => hk.2) _) (fun _ _ => trivial)
      · rw [if_neg hq] at hc
        subst hc
        have HV := Aside0.mk (short_val HO0.out hD hq)
        clear hD hT2 hrd hu hown hTn hor hz hz1 hz2 h1 h2 h3 hne hq
        have d0 : _ = some (Value.int .i64 0) := (blk_cell HR1.out 0).trans rfl
        have d1 : _ = some (Value.int .u64 0) := (blk_cell HR1.out 1).trans rfl
        have d2 : _ = some (Value.int .u64 0) := (blk_cell HR1.out 2).trans rfl
        have d3 : _ = some (Value.slice none 0 0) := (blk_cell HR1.out 3).trans rfl
        have d4 : _ = some (Value.int .i64 0) := (blk_cell HR1.out 4).trans rfl
        have d5 : _ = some (Value.slice none 0 0) := (blk_cell HR1.out 5).trans rfl
        have f0 := blk_frozen HR1.out 0
        have f1 := blk_frozen HR1.out 1
        have f2 := blk_frozen HR1.out 2
        have f3 := blk_frozen HR1.out 3
        have f4 := blk_frozen HR1.out 4
        have f5 := blk_frozen HR1.out 5
        go_wp2_with fail
        refine bodyPost_ret (v := .tuple #[.agg #[.int .i64 0, .int .u64 0, .int .u64 0, .slice none 0 0, .int .i64 0, .slice none 0 0], .int .i64 125]) (results_ct (fn := Tryd.f20) rfl _ _ w.heap.size 46 #[.int .i64 0, .int .u64 0, .int .u64 0, .slice none 0 0, .int .i64 0, .slice none 0 0] (0, 0) _ rfl (by exact (blk_set ((blk_set ((blk_set ((blk_set ((blk_set ((blk_set HR1.out 0 (.int .i64 0)).trans rfl) 1 (.int .u64 0)).trans rfl) 2 (.int .u64 0)).trans rfl) 3 (.slice none 0 0)).trans rfl) 4 (.int .i64 0)).trans rfl) 5 (.slice none 0 0)).trans rfl) Tryd.underlying46 rfl (by kernel_rfl)) rfl ?_
        refine ⟨_, by rw [HV.out.1, HV.out.2]; rfl, ?_, ((((((HB.out.setCell (p := ⟨w.heap.size, 0, none⟩) (Nat.le_refl _) _).setCell (p := ⟨w.heap.size, 1, none⟩) (Nat.le_refl _) _).setCell (p := ⟨w.heap.size, 2, none⟩) (Nat.le_refl _) _).setCell (p := ⟨w.heap.size, 3, none⟩) (Nat.le_refl _) _).setCell (p := ⟨w.heap.size, 4, none⟩) (Nat.le_refl _) _).setCell (p := ⟨w.heap.size, 5, none⟩) (Nat.le_refl _) _)⟩
        rw [HV.out.1]
        exact Kd.R_nil _ _ _ _ _
  · have HI := Aside0.mk (del_out b ltE #[.pointer (some ⟨w.heap.size + 1, 0, none⟩)] w2 hb HT.out ho)
    have HV := Aside0.mk (out_val ho)
    have H0 := Aside0.mk b0
    have HO0 := Aside0.mk ho
    clear b0 b1 z2 e2 hb2 hT ho gd
    go_enter Tryd.func20, Tryd.ntmps20
    go_wp2_with fail
    rw [← E2.out]
    refine HI.out.mono ?_
    rintro e w4 ⟨rfl, hb4⟩
    have hz := HZ.out
    have HR1 := Aside0.mk ((hb4.block _ (by omega)).trans H0.out)
    have HB := Aside0.mk (HB.out.trans (hb4.mono (by omega)))
    have hk : (opn b ltE == 0) = false := beq_eq_false_iff_ne.2 HO0.out
    generalize opn b ltE = cd at hk HV ⊢
    clear hb4 hz HI HO0
    have d0 : _ = some (Value.int .i64 0) := (blk_cell HR1.out 0).trans rfl
    have d1 : _ = some (Value.int .u64 0) := (blk_cell HR1.out 1).trans rfl
    have d2 : _ = some (Value.int .u64 0) := (blk_cell HR1.out 2).trans rfl
    have d3 : _ = some (Value.slice none 0 0) := (blk_cell HR1.out 3).trans rfl
    have d4 : _ = some (Value.int .i64 0) := (blk_cell HR1.out 4).trans rfl
    have d5 : _ = some (Value.slice none 0 0) := (blk_cell HR1.out 5).trans rfl
    have f0 := blk_frozen HR1.out 0
    have f1 := blk_frozen HR1.out 1
    have f2 := blk_frozen HR1.out 2
    have f3 := blk_frozen HR1.out 3
    have f4 := blk_frozen HR1.out 4
    have f5 := blk_frozen HR1.out 5
    go_wp2_with fail
    refine bodyPost_ret (v := .tuple #[.agg #[.int .i64 0, .int .u64 0, .int .u64 0, .slice none 0 0, .int .i64 0, .slice none 0 0], .int .i64 cd]) (results_ct (fn := Tryd.f20) rfl _ _ w.heap.size 46 #[.int .i64 0, .int .u64 0, .int .u64 0, .slice none 0 0, .int .i64 0, .slice none 0 0] (0, 0) _ rfl (by exact (blk_set ((blk_set ((blk_set ((blk_set ((blk_set ((blk_set HR1.out 0 (.int .i64 0)).trans rfl) 1 (.int .u64 0)).trans rfl) 2 (.int .u64 0)).trans rfl) 3 (.slice none 0 0)).trans rfl) 4 (.int .i64 0)).trans rfl) 5 (.slice none 0 0)).trans rfl) Tryd.underlying46 rfl (by kernel_rfl)) rfl ?_
    refine ⟨_, by rw [HV.out.1, HV.out.2]; rfl, ?_, ((((((HB.out.setCell (p := ⟨w.heap.size, 0, none⟩) (Nat.le_refl _) _).setCell (p := ⟨w.heap.size, 1, none⟩) (Nat.le_refl _) _).setCell (p := ⟨w.heap.size, 2, none⟩) (Nat.le_refl _) _).setCell (p := ⟨w.heap.size, 3, none⟩) (Nat.le_refl _) _).setCell (p := ⟨w.heap.size, 4, none⟩) (Nat.le_refl _) _).setCell (p := ⟨w.heap.size, 5, none⟩) (Nat.le_refl _) _)⟩
    rw [HV.out.1]
    exact Kd.R_nil _ _ _ _ _
end Go.Proofs.YtejjidggnnhgjaaDoor.HImDe
/- goodManifest of layer 12, by the program: it keeps the numbers of the pairs in a map of its own. -/
set_option linter.unusedVariables false
set_option linter.unusedSimpArgs false
namespace Go.Proofs.YtejjidggnnhgjaaDoor.HImGm
open Go.RowKit Go.Maps Go.Proofs.YtejjidggnnhgjaaDoor.PImg Go.Proofs.YtejjidggnnhgjaaDoor.HImP Go.Proofs.YtejjidggnnhgjaaDoor.HImD Go.Proofs.YtejjidggnnhgjaaDoor.HImE Go.Proofs.YtejjidggnnhgjaaDoorW.PrintWords Go.Proofs.YtejjidggnnhgjaaDoorW.PrintLast Go.Proofs.YtejjidggnnhgjaaDoorW.PrintMore Go.Proofs.YtejjidggnnhgjaaDoor.HCore
def keyN (x : SN) : Lit := .int .i64 x.f0
/-- What stands while the names are looked at. -/
structure St (w wr : World) (cs : Array Value) (ps : List SN) (k : Nat) : Prop where
  below : Below w.heap.size w wr
  box : wr.heap[w.heap.size]? = some (.cells cs 25 (0, 0))
  own : wr.ownsMap Tryd.prog 3 (unitElem (H := Unit)) (w.heap.size + 1) k (setOf (.agg []) ((ps.take k).map keyN))
theorem St.step {w wr w1 : World} {cs : Array Value} {ps : List SN} {k : Nat} (h : St w wr cs ps k) (hk : k < ps.length) (o : Obj) (hown : w1.ownsMap Tryd.prog 3 (unitElem (H := Unit)) (w.heap.size + 1) (k + 1) ((setOf (.agg []) ((ps.take k).map keyN)).put (keyN ps[k]) (.agg []))) (hg : (wr.alloc o).grownBy w1 (some (w.heap.size + 1))) : St w w1 cs ps (k + 1) := by
  have hb := below_alloc h.below o
  have h0 := (heap_alloc_old wr o (blk_lt h.box)).trans h.box
  refine ⟨hb.grown hg hb.size (fun j hj => by cases hj; omega), ?_, ?_⟩
  · exact (hg.block _ (blk_lt h0) (fun e => by injection e; omega)).trans h0
  · rw [List.take_succ_eq_append_getElem hk, List.map_append, List.map_cons, List.map_nil, setOf_snoc]
    exact hown
end Go.Proofs.YtejjidggnnhgjaaDoor.HImGm
/- The closure of DecodeManifest of layer 12, by the program. -/
set_option linter.unusedVariables false
set_option linter.unusedSimpArgs false
namespace Go.Proofs.YtejjidggnnhgjaaDoor.HImCm
open Go.RowKit Go.Proofs.YtejjidggnnhgjaaDoor.PImg Go.Proofs.YtejjidggnnhgjaaDoor.HBase Go.Proofs.YtejjidggnnhgjaaDoor.HBlob Go.Proofs.YtejjidggnnhgjaaDoor.HSum Go.Proofs.YtejjidggnnhgjaaDoor.HCk Go.Proofs.YtejjidggnnhgjaaDoor.HImgW Go.Proofs.YtejjidggnnhgjaaDoor.HImgR Go.Proofs.YtejjidggnnhgjaaDoor.HImgO Go.Proofs.YtejjidggnnhgjaaDoor.HImP Go.Proofs.YtejjidggnnhgjaaDoor.HImD Go.Proofs.YtejjidggnnhgjaaDoor.HImR2 Go.Proofs.YtejjidggnnhgjaaDoorW.PrintWords Go.Proofs.YtejjidggnnhgjaaDoorW.PrintLast Go.Proofs.YtejjidggnnhgjaaDoorW.PrintMore Go.Proofs.YtejjidggnnhgjaaDoor.HCore
def cells (r : Int × Int × Int × List SN) (u : Value) : Array Value := #[.int .i64 r.1, .int .i64 r.2.1, .int .u64 r.2.2.1, u]
/-- What the closure leaves. -/
def Left (w : World) (pb rb : Nat) (s : ByteArray) (D : Option ((Int × Int × Int × List SN) × Int)) (e : Ending) (w' : World) : Prop :=
  Two pb rb w w' ∧ match D with
  | some rq => e = .returned (.tuple #[]) ∧ w'.heap[rb]? = some (Rd s rq.2) ∧ ∃ u, w'.heap[pb]? = some (.cells (cells rq.1 u) 25 (0, 0)) ∧ Kd.R k36 36 w' w.heap.size (fun _ => True) u rq.1.2.2.2
  | none => e = gives
theorem Left.gone {w w' : World} {pb rb : Nat} {s : ByteArray} {D : Option ((Int × Int × Int × List SN) × Int)} (h : Two pb rb w w') (hD : D = none) : Left w pb rb s D gives w' := by subst hD; exact ⟨h, rfl⟩
theorem Left.read {w w' : World} {pb rb : Nat} {s : ByteArray} {D : Option ((Int × Int × Int × List SN) × Int)} {r : Int × Int × Int × List SN} {q : Int} {u : Value} (h : Two pb rb w w') (hD : D = some (r, q)) (h1 : w'.heap[rb]? = some (Rd s q)) (h2 : w'.heap[pb]? = some (.cells (cells r u) 25 (0, 0))) (h3 : Kd.R k36 36 w' w.heap.size (fun _ => True) u r.2.2.2) : Left w pb rb s D (.returned (.tuple #[])) w' := by subst hD; exact ⟨h, rfl, h1, u, h2, h3⟩
end Go.Proofs.YtejjidggnnhgjaaDoor.HImCm
/- Reading a file of layer 12 loosely, as the document does, step by step: what stands while the records are gathered; and what a loose reading that is laid down again comes to. -/
set_option linter.unusedVariables false
set_option linter.unusedSimpArgs false
namespace Go.Proofs.YtejjidggnnhgjaaDoor.HImS
open Go.RowKit Go.Proofs.YtejjidggnnhgjaaDoor.PImg Go.Proofs.YtejjidggnnhgjaaDoor.HBase Go.Proofs.YtejjidggnnhgjaaDoor.HBlob Go.Proofs.YtejjidggnnhgjaaDoor.HSum Go.Proofs.YtejjidggnnhgjaaDoor.HCk Go.Proofs.YtejjidggnnhgjaaDoor.HImgW Go.Proofs.YtejjidggnnhgjaaDoor.HImgR Go.Proofs.YtejjidggnnhgjaaDoor.HImgO Go.Proofs.YtejjidggnnhgjaaDoor.HImP Go.Proofs.YtejjidggnnhgjaaDoor.HImD Go.Proofs.YtejjidggnnhgjaaDoor.HImE Go.Proofs.YtejjidggnnhgjaaDoor.HImF Go.Proofs.YtejjidggnnhgjaaDoorW.PrintWords Go.Proofs.YtejjidggnnhgjaaDoorW.PrintLast Go.Proofs.YtejjidggnnhgjaaDoorW.PrintMore Go.Proofs.YtejjidggnnhgjaaDoor.HCore
/-- What stands: the result's block (the first), the struct in pb, the cursor in gb; the records' row is not block nb. -/
structure Lo {X : Type} (d : Kd X) (E T : Nat) (Z : Array Value) (w : World) (pb gb nb : Nat) (s : ByteArray) (c : Int × Bool) (cs : Array Value) (u : Value) (l : List X) (wr : World) : Prop where
  below : Below w.heap.size w wr
  res : wr.heap[w.heap.size]? = some (.cells Z T (0, 0))
  pair : wr.heap[pb]? = some (.cells cs T (0, 0))
  cur : Cu w wr gb s c
  own : Kd.R d E wr w.heap.size (fun k => k ≠ nb) u l
  ne : w.heap.size < pb ∧ pb ≠ gb ∧ w.heap.size < gb
section
variable {X : Type} {d : Kd X} {E T : Nat} {Z : Array Value} {w wr wr' : World} {pb gb nb : Nat} {s : ByteArray} {c c' : Int × Bool} {cs : Array Value} {u : Value} {l : List X}
theorem Lo.step (h : Lo d E T Z w pb gb nb s c cs u l wr) (hb : Below wr.heap.size wr wr') : Lo d E T Z w pb gb nb s c cs u l wr' :=
  ⟨below_then h.below h.below.size hb, (hb.block _ (blk_lt h.res)).trans h.res, (hb.block _ (blk_lt h.pair)).trans h.pair, h.cur.below hb, Kd.R_below h.own hb, h.ne⟩
theorem Lo.drew (h : Lo d E T Z w pb gb nb s c cs u l wr) : Lo d E T Z w pb gb nb s c cs u l wr.drew := h.step (below_drew (Below.refl _ _))
theorem Lo.drewN (h : Lo d E T Z w pb gb nb s c cs u l wr) (n : Nat) : Lo d E T Z w pb gb nb s c cs u l (wr.drewN n) := h.step (pw_below_drewN (Below.refl _ _) n)
theorem Lo.reads (ht : ∀ q, q ∈ E :: d.E → q ≠ 93) (h : Lo d E T Z w pb gb nb s c cs u l wr) (hI : Cu w wr' gb s c') (hb : Below w.heap.size w wr') (hk : KeepBut wr wr' gb none) : Lo d E T Z w pb gb nb s c' cs u l wr' :=
  ⟨hb, (hk.2 _ (blk_lt h.res) (by have := h.ne; omega) (by simp)).trans h.res, (hk.2 _ (blk_lt h.pair) h.ne.2.1 (by simp)).trans h.pair, hI, Kd.R_mono (Kd.R_keep (Kd.R_types h.own h.cur.1 ht) hk (fun _ hk => hk.2)) (fun _ hk => hk.1), h.ne⟩
theorem Lo.new (h : Lo d E T Z w pb gb nb s c cs u l wr) (o : Obj) : Lo d E T Z w pb gb wr.heap.size s c cs u l (wr.alloc o) := by
  have h2 := h.step (below_alloc (Below.refl _ _) o)
  exact ⟨h2.below, h2.res, h2.pair, h2.cur, Kd.R_alloc (Kd.R_mono (Kd.R_elderB h.own wr.heap.size (Nat.le_refl _)) (fun _ hk => hk.2)) o, h2.ne⟩
theorem Lo.free (ht : ∀ q, q ∈ E :: d.E → q ≠ 93) (h : Lo d E T Z w pb gb nb s c cs u l wr) : Lo d E T Z w pb gb gb s c cs u l wr :=
  ⟨h.below, h.res, h.pair, h.cur, Kd.R_mono (Kd.R_types h.own h.cur.1 ht) (fun _ hk => hk.2), h.ne⟩
theorem cur_far {p : Addr} (h : Cu w wr gb s c) (hn : gb ≠ p.block) (v : Value) : Cu w (wr.setCell p v) gb s c := ⟨blk_far h.1 hn v, h.2⟩
theorem Lo.put (ht : ∀ q, q ∈ E :: d.E → q ≠ T) (h : Lo d E T Z w pb gb nb s c cs u l wr) (j : Nat) (v : Value) : Lo d E T Z w pb gb nb s c (cs.setIfInBounds j v) u l (wr.setCell ⟨pb, j, none⟩ v) :=
  ⟨h.below.setCell (p := ⟨pb, j, none⟩) (Nat.le_of_lt h.ne.1) v, blk_far h.res (by have := h.ne; show w.heap.size ≠ pb; omega) v, blk_set h.pair j v, cur_far h.cur (Ne.symm h.ne.2.1) v, Kd.R_set h.own h.pair ht j v, h.ne⟩
theorem Lo.far (h : Lo d E T Z w pb gb nb s c cs u l wr) (hn : w.heap.size < nb ∧ nb ≠ pb ∧ nb ≠ gb) (j : Nat) (v : Value) : Lo d E T Z w pb gb nb s c cs u l (wr.setCell ⟨nb, j, none⟩ v) :=
  ⟨h.below.setCell (p := ⟨nb, j, none⟩) (Nat.le_of_lt hn.1) v, blk_far h.res (by show w.heap.size ≠ nb; omega) v, blk_far h.pair (Ne.symm hn.2.1) v, cur_far h.cur (Ne.symm hn.2.2) v, Kd.R_far h.own (fun _ hk => hk) v, h.ne⟩
theorem Lo.more (ht : ∀ q, q ∈ E :: d.E → q ≠ T) (ht2 : ∀ q, q ∈ E :: d.E → q ≠ 93) (h : Lo d E T Z w pb gb nb s c cs u l wr) {u' : Value} {l' : List X} (hb : Below w.heap.size w wr') (hg : wr.grownBy wr' u.ownBlock) (ho : Kd.R d E wr' w.heap.size (fun k => k ≠ nb) u' l') (j : Nat) :
    Lo d E T Z w pb gb nb s c (cs.setIfInBounds j u') u' l' (wr'.setCell ⟨pb, j, none⟩ u') := by
  have hE := ht E (List.mem_cons_self ..)
  have hE2 := ht2 E (List.mem_cons_self ..)
  have h0 : Lo d E T Z w pb gb nb s c cs u' l' wr' :=
    ⟨hb, (hg.block _ (blk_lt h.res) (Kd.R_ne h.own h.res hE)).trans h.res, (hg.block _ (blk_lt h.pair) (Kd.R_ne h.own h.pair hE)).trans h.pair, h.cur.grown hg (Kd.R_ne h.own h.cur.1 hE2), ho, h.ne⟩
  exact h0.put ht j u'
end
/-! ### what a loose reading comes to -/
theorem file_iff {b lt : ByteArray} {l : List UInt8} (hlt : lt.size = 8) (ho : opn b lt = 0) : fileOf lt l = b ↔ l = (ins b).data.toList := by
  unfold opn at ho
  have h1 : ¬ b.size < 12 := fun h => by rw [if_pos h] at ho; exact absurd ho (by decide)
  rw [if_neg h1] at ho
  have h2 : ¬ Lib.hasPrefix b.data.toList lt.data.toList = false := fun h => by rw [if_pos h] at ho; exact absurd ho (by decide)
  rw [if_neg h2] at ho
  have h3 : (fxb 4 (ck (b.extract 0 (b.size - 4)))).toList = (b.extract (b.size - 4) b.size).toList := by
    apply Classical.byContradiction
    intro h
    rw [if_neg h] at ho
    exact absurd ho (by decide)
  have hp := pre_iff b lt (by omega) hlt
  have h4 : (b.extract 0 8).data.toList = lt.data.toList := by
    have : Lib.hasPrefix b.data.toList lt.data.toList = true := by simpa using h2
    rw [this] at hp
    have := beq_iff_eq.1 hp.symm
    rwa [toList_data, toList_data] at this
  rw [toList_data, toList_data] at h3
  have hi := ins_eq b (by omega)
  have hbody : (b.extract 0 (b.size - 4)).data.toList = lt.data.toList ++ (ins b).data.toList := by
    rw [← h4, hi, extract_list, extract_list, extract_list, List.drop_zero, Nat.sub_zero, Nat.sub_zero]
    rw [← List.take_add, show 8 + (b.size - 4 - 8) = b.size - 4 by omega]
  have hbl : b.data.toList = (b.extract 0 (b.size - 4)).data.toList ++ (b.extract (b.size - 4) b.size).data.toList := by
    rw [extract_list, extract_list, List.drop_zero, Nat.sub_zero]
    rw [List.take_of_length_le (l := b.data.toList.drop (b.size - 4)) (by rw [List.length_drop, size_list]; omega), List.take_append_drop]
  have e2 : (⟨(lt.data.toList ++ (ins b).data.toList).toArray⟩ : ByteArray) = b.extract 0 (b.size - 4) := by
    apply ba_ext
    rw [hbody]
  constructor
  · intro h
    have h5 : (fileOf lt l).data.toList = b.data.toList := by rw [h]
    unfold fileOf at h5
    rw [append_list, show (⟨(lt.data.toList ++ l).toArray⟩ : ByteArray).data.toList = lt.data.toList ++ l from rfl] at h5
    have hbz := size_list b
    have hl4 : (fxb 4 (ck ⟨(lt.data.toList ++ l).toArray⟩)).data.toList.length = 4 := by rw [size_list, fxb_len]
    have hlen := congrArg List.length h5
    rw [List.length_append, hl4] at hlen
    have h6 : lt.data.toList ++ l = (b.extract 0 (b.size - 4)).data.toList := by
      have := congrArg (List.take (b.size - 4)) h5
      rw [List.take_append_of_le_length (by simp only [List.length_append] at hlen ⊢; omega), List.take_of_length_le (by simp only [List.length_append] at hlen ⊢; omega)] at this
      rw [extract_list, List.drop_zero, Nat.sub_zero]
      exact this
    rw [hbody] at h6
    exact List.append_cancel_left h6
  · intro h
    subst h
    apply ba_ext
    unfold fileOf
    rw [e2, append_list, h3, ← hbl]
end Go.Proofs.YtejjidggnnhgjaaDoor.HImS
/- Lists of layer 12's records, written where they lie and made longer: what stands meanwhile. -/
set_option linter.unusedVariables false
set_option linter.unusedSimpArgs false
namespace Go.Proofs.YtejjidggnnhgjaaDoor.HImL
open Go.RowKit Go.Proofs.YtejjidggnnhgjaaDoor.PImg Go.Proofs.YtejjidggnnhgjaaDoor.HImP Go.Proofs.YtejjidggnnhgjaaDoor.HImD Go.Proofs.YtejjidggnnhgjaaDoorW.PrintWords Go.Proofs.YtejjidggnnhgjaaDoorW.PrintLast Go.Proofs.YtejjidggnnhgjaaDoorW.PrintMore Go.Proofs.YtejjidggnnhgjaaDoor.HCore
theorem store_run {P : Program} {o : Oper} {a : Act} {w w1 : World} {t : TypeId} {x y : Operand} {p v : Value} (ho : o.op = .store t x y) (hx : a.eval x = p) (hy : a.eval y = v) (h : (Instr.storeAt t p v).run P w = .ok () w1) : (execOp a.eval o).run P w = .ok .skip w1 := by
  unfold execOp
  rw [ho]
  simp [hx, hy, h]
/-- A row of one's own, from a world on: nothing else that was there has been touched. -/
structure Rw {X : Type} (d : Kd X) (E : Nat) (w0 : World) (base : Nat) (v0 : Value) (W : World) (v : Value) (l : List X) : Prop where
  bel : Below base w0 W
  own : Kd.R d E W base (fun _ => True) v l
  gr : w0.grownBy W v0.ownBlock
  blk : v.ownBlock = v0.ownBlock ∨ ∃ b, v.ownBlock = some b ∧ w0.heap.size ≤ b
  hb : base ≤ w0.heap.size
section
variable {X : Type} {d : Kd X} {E : Nat} {w0 W W' : World} {base : Nat} {v0 v : Value} {l : List X}
theorem Rw.start (h : Kd.R d E w0 base (fun _ => True) v0 l) (hb : base ≤ w0.heap.size) : Rw d E w0 base v0 w0 v0 l := ⟨Below.refl _ _, h, ⟨rfl, rfl, rfl, Nat.le_refl _, fun _ _ _ => rfl⟩, Or.inl rfl, hb⟩
theorem Rw.below (h : Rw d E w0 base v0 W v l) (hb : Below W.heap.size W W') : Rw d E w0 base v0 W' v l :=
  ⟨below_then h.bel (Nat.le_trans h.hb h.gr.size) hb, Kd.R_below h.own hb, ⟨hb.os.trans h.gr.os, hb.tape.trans h.gr.tape, hb.output.trans h.gr.output, Nat.le_trans h.gr.size hb.size, fun k hk hn => (hb.block k (Nat.lt_of_lt_of_le hk h.gr.size)).trans (h.gr.block k hk hn)⟩, h.blk, h.hb⟩
end
/-- Element i of a row is written whole. -/
theorem wrD {W : World} {base g n c : Nat} {xs : List S58} (h : Kd.R k58 58 W base (fun _ => True) (.slice (some ⟨g, 0, none⟩) n c) xs) (i : Nat) (hi : i < n) (x : S58) :
    Kd.R k58 58 (W.setCells g (i * 3) [.int .u64 x.f0, .string x.f1, .string x.f2]) base (fun _ => True) (.slice (some ⟨g, 0, none⟩) n c) (xs.set i x)
    ∧ W.grownBy (W.setCells g (i * 3) [.int .u64 x.f0, .string x.f1, .string x.f2]) (some g)
    ∧ ∀ (v : Value), v.cells.toList = [.int .u64 x.f0, .string x.f1, .string x.f2] → (Instr.storeAt 58 (.pointer (some ⟨g, i * 3, none⟩)) v).run Tryd.prog W = .ok () (W.setCells g (i * 3) [.int .u64 x.f0, .string x.f1, .string x.f2]) := by
  obtain ⟨hl, hnc, hC⟩ := Kd.R_reads' h
  obtain ⟨ad, cs, e1, e2, e3, e4⟩ := ReadsRow.get_ hC z58 (i : Int) (by omega) (by omega)
  obtain rfl := Option.some.inj e1
  have hs := Kd.R_seg (okp := fun _ => False) (x' := x) (seg := [.int .u64 x.f0, .string x.f1, .string x.f2]) (j := 0) h (i : Int) (by omega) (by omega) e2 (fun j u hu => by have := e4 j u hu; rwa [add_plain] at this) (show 0 + 3 ≤ 3 by omega) (by
    have e : cs.drop (0 + 3) = [] := List.drop_of_length_le (by rw [e2]; decide)
    show k58.M W base (fun _ => False) x (cs.take 0 ++ [.int .u64 x.f0, .string x.f1, .string x.f2] ++ cs.drop (0 + 3))
    rw [e]
    exact k58_mkM _ _ _ x) (fun _ hk => hk.elim)
  obtain ⟨hr, hg⟩ := hs
  have hz : ((i : Int).toNat * k58.sz + 0) = i * 3 := rfl
  rw [hz] at hr hg
  have hn : xs.set (i : Int).toNat x = xs.set i x := rfl
  rw [hn] at hr
  obtain ⟨_, inner, ho, hri⟩ := h
  obtain ⟨hin, ho2⟩ := ho
  rcases ho2 with ⟨hv, _⟩ | ⟨g', cap', cur, hv, hb, hh, hnc', hcm, hcs, ht⟩
  · cases hv
  injection hv with ha _ hc
  injection ha with ha
  injection ha with hgg
  subst hgg; subst hc
  have hfit : i * 3 + 3 ≤ cur.size := by
    rw [hcs]
    show i * 3 + 3 ≤ c * 3
    omega
  refine ⟨hr, hg, fun v hv => ?_⟩
  exact run_store_run 58 v _ hh hv (by kernel_rfl) hfit (by intro q hq; simp at hq; rcases hq with rfl | rfl | rfl <;> rfl)
/-- Element i of a row is written whole. -/
theorem wrE {W : World} {base g n c : Nat} {xs : List S60} (h : Kd.R k60 60 W base (fun _ => True) (.slice (some ⟨g, 0, none⟩) n c) xs) (i : Nat) (hi : i < n) (x : S60) :
    Kd.R k60 60 (W.setCells g (i * 3) [.int .u64 x.f0, .int .u64 x.f1, .string x.f2]) base (fun _ => True) (.slice (some ⟨g, 0, none⟩) n c) (xs.set i x)
    ∧ W.grownBy (W.setCells g (i * 3) [.int .u64 x.f0, .int .u64 x.f1, .string x.f2]) (some g)
    ∧ ∀ (v : Value), v.cells.toList = [.int .u64 x.f0, .int .u64 x.f1, .string x.f2] → (Instr.storeAt 60 (.pointer (some ⟨g, i * 3, none⟩)) v).run Tryd.prog W = .ok () (W.setCells g (i * 3) [.int .u64 x.f0, .int .u64 x.f1, .string x.f2]) := by
  obtain ⟨hl, hnc, hC⟩ := Kd.R_reads' h
  obtain ⟨ad, cs, e1, e2, e3, e4⟩ := ReadsRow.get_ hC z60 (i : Int) (by omega) (by omega)
  obtain rfl := Option.some.inj e1
  have hs := Kd.R_seg (okp := fun _ => False) (x' := x) (seg := [.int .u64 x.f0, .int .u64 x.f1, .string x.f2]) (j := 0) h (i : Int) (by omega) (by omega) e2 (fun j u hu => by have := e4 j u hu; rwa [add_plain] at this) (show 0 + 3 ≤ 3 by omega) (by
    have e : cs.drop (0 + 3) = [] := List.drop_of_length_le (by rw [e2]; decide)
    show k60.M W base (fun _ => False) x (cs.take 0 ++ [.int .u64 x.f0, .int .u64 x.f1, .string x.f2] ++ cs.drop (0 + 3))
    rw [e]
    exact k60_mkM _ _ _ x) (fun _ hk => hk.elim)
  obtain ⟨hr, hg⟩ := hs
  have hz : ((i : Int).toNat * k60.sz + 0) = i * 3 := rfl
  rw [hz] at hr hg
  have hn : xs.set (i : Int).toNat x = xs.set i x := rfl
  rw [hn] at hr
  obtain ⟨_, inner, ho, hri⟩ := h
  obtain ⟨hin, ho2⟩ := ho
  rcases ho2 with ⟨hv, _⟩ | ⟨g', cap', cur, hv, hb, hh, hnc', hcm, hcs, ht⟩
  · cases hv
  injection hv with ha _ hc
  injection ha with ha
  injection ha with hgg
  subst hgg; subst hc
  have hfit : i * 3 + 3 ≤ cur.size := by
    rw [hcs]
    show i * 3 + 3 ≤ c * 3
    omega
  refine ⟨hr, hg, fun v hv => ?_⟩
  exact run_store_run 60 v _ hh hv (by kernel_rfl) hfit (by intro q hq; simp at hq; rcases hq with rfl | rfl | rfl <;> rfl)
end Go.Proofs.YtejjidggnnhgjaaDoor.HImL
/- named, of layer 12's statements: a manifest's list written full and made longer touches that list alone. -/
set_option linter.unusedVariables false
set_option linter.unusedSimpArgs false
namespace Go.Proofs.YtejjidggnnhgjaaDoor.HImNm
open Go.RowKit Go.Proofs.YtejjidggnnhgjaaDoor.PImg Go.Proofs.YtejjidggnnhgjaaDoor.HImP Go.Proofs.YtejjidggnnhgjaaDoor.HImD Go.Proofs.YtejjidggnnhgjaaDoor.HImL Go.Proofs.YtejjidggnnhgjaaDoorW.PrintWords Go.Proofs.YtejjidggnnhgjaaDoorW.PrintLast Go.Proofs.YtejjidggnnhgjaaDoorW.PrintMore Go.Proofs.YtejjidggnnhgjaaDoor.HCore
theorem own_form {X : Type} {k : Kd X} {tX : TypeId} {W : World} {base n c : Nat} {A : Option Addr} {xs : List X} {ok : Nat → Prop} (h : Kd.R k tX W base ok (.slice A n c) xs) : (A = none ∧ n = 0 ∧ c = 0) ∨ ∃ g, A = some ⟨g, 0, none⟩ := by
  obtain ⟨_, inner, ho, _⟩ := h
  rcases ho.2 with ⟨hv, _⟩ | ⟨g, cap, cur, hv, _⟩
  · injection hv with h1 h2 h3
    exact Or.inl ⟨h1, h2, h3⟩
  · injection hv with h1 _ _
    exact Or.inr ⟨g, h1⟩
theorem sl_form {X : Type} {k : Kd X} {tX : TypeId} {W : World} {base : Nat} {v : Value} {xs : List X} {ok : Nat → Prop} (h : Kd.R k tX W base ok v xs) : ∃ A c n, n = xs.length ∧ v = .slice A n c := by
  obtain ⟨A, c, hv⟩ := Kd.R_slice h
  exact ⟨A, c, _, rfl, hv⟩
end Go.Proofs.YtejjidggnnhgjaaDoor.HImNm
/- backwards, of layer 12's statements: the lists of a pair turned round where they lie. -/
set_option linter.unusedVariables false
set_option linter.unusedSimpArgs false
namespace Go.Proofs.YtejjidggnnhgjaaDoor.HImBk
open Go.RowKit Go.Proofs.YtejjidggnnhgjaaDoor.PImg Go.Proofs.YtejjidggnnhgjaaDoor.HImP Go.Proofs.YtejjidggnnhgjaaDoor.HImD Go.Proofs.YtejjidggnnhgjaaDoor.HImL Go.Proofs.YtejjidggnnhgjaaDoor.HImNm Go.Proofs.YtejjidggnnhgjaaDoorW.PrintWords Go.Proofs.YtejjidggnnhgjaaDoorW.PrintLast Go.Proofs.YtejjidggnnhgjaaDoorW.PrintMore Go.Proofs.YtejjidggnnhgjaaDoor.HCore
/-- The cells of element i of a row. -/
theorem clD {W : World} {base g n c : Nat} {xs : List SD} (h : Kd.R k58 58 W base (fun _ => True) (.slice (some ⟨g, 0, none⟩) n c) xs) (i : Nat) (hi : i < n) :
    W.cell? ⟨g, i * 3, none⟩ = some (.int .u64 (xs.getD i z58).f0) ∧ W.cell? ⟨g, i * 3 + 1, none⟩ = some (.string (xs.getD i z58).f1) ∧ W.cell? ⟨g, i * 3 + 2, none⟩ = some (.string (xs.getD i z58).f2) := by
  obtain ⟨hl, hnc, hC⟩ := Kd.R_reads' h
  obtain ⟨ad, cs, e1, e2, e3, e4⟩ := ReadsRow.get_ hC z58 (i : Int) (by omega) (by omega)
  obtain rfl := Option.some.inj e1
  have e5 : k58.K W (xs.getD i z58) cs := e3
  obtain rfl := k58_open e5
  have f0 := e4 0 _ rfl
  have f1 := e4 1 _ rfl
  have f2 := e4 2 _ rfl
  rw [add_plain] at f0 f1 f2
  exact ⟨f0, f1, f2⟩
theorem clE {W : World} {base g n c : Nat} {xs : List SE} (h : Kd.R k60 60 W base (fun _ => True) (.slice (some ⟨g, 0, none⟩) n c) xs) (i : Nat) (hi : i < n) :
    W.cell? ⟨g, i * 3, none⟩ = some (.int .u64 (xs.getD i z60).f0) ∧ W.cell? ⟨g, i * 3 + 1, none⟩ = some (.int .u64 (xs.getD i z60).f1) ∧ W.cell? ⟨g, i * 3 + 2, none⟩ = some (.string (xs.getD i z60).f2) := by
  obtain ⟨hl, hnc, hC⟩ := Kd.R_reads' h
  obtain ⟨ad, cs, e1, e2, e3, e4⟩ := ReadsRow.get_ hC z60 (i : Int) (by omega) (by omega)
  obtain rfl := Option.some.inj e1
  have e5 : k60.K W (xs.getD i z60) cs := e3
  obtain rfl := k60_open e5
  have f0 := e4 0 _ rfl
  have f1 := e4 1 _ rfl
  have f2 := e4 2 _ rfl
  rw [add_plain] at f0 f1 f2
  exact ⟨f0, f1, f2⟩
theorem frz {X : Type} {k : Kd X} {tX : TypeId} {W : World} {base g n c : Nat} {xs : List X} {ok : Nat → Prop} (h : Kd.R k tX W base ok (.slice (some ⟨g, 0, none⟩) n c) xs) (j : Nat) : W.frozen? ⟨g, j, none⟩ = false := by
  obtain ⟨_, inner, ho, _⟩ := h
  obtain ⟨cells, hh⟩ := own_typed ho g rfl
  exact blk_frozen hh j
/-- Nothing that was there has been touched but two blocks. -/
structure Two (w W : World) (r1 r2 : Option Nat) : Prop where
  os : W.os = w.os
  tape : W.tape = w.tape
  output : W.output = w.output
  size : w.heap.size ≤ W.heap.size
  block : ∀ k, k < w.heap.size → some k ≠ r1 → some k ≠ r2 → W.heap[k]? = w.heap[k]?
theorem Two.refl (w : World) (r1 r2 : Option Nat) : Two w w r1 r2 := ⟨rfl, rfl, rfl, Nat.le_refl _, fun _ _ _ _ => rfl⟩
theorem Two.below {w W W' : World} {r1 r2 : Option Nat} (h : Two w W r1 r2) (hb : Below W.heap.size W W') : Two w W' r1 r2 :=
  ⟨hb.os.trans h.os, hb.tape.trans h.tape, hb.output.trans h.output, Nat.le_trans h.size hb.size, fun k hk h1 h2 => (hb.block k (Nat.lt_of_lt_of_le hk h.size)).trans (h.block k hk h1 h2)⟩
theorem Two.grown {w W W' : World} {r1 r2 r : Option Nat} (h : Two w W r1 r2) (hg : W.grownBy W' r) (hr : r = r1 ∨ r = r2 ∨ ∃ b, r = some b ∧ w.heap.size ≤ b) : Two w W' r1 r2 := by
  refine ⟨hg.os.trans h.os, hg.tape.trans h.tape, hg.output.trans h.output, Nat.le_trans h.size hg.size, fun k hk h1 h2 => (hg.block k (Nat.lt_of_lt_of_le hk h.size) (fun e => ?_)).trans (h.block k hk h1 h2)⟩
  rcases hr with hr | hr | ⟨b, hr, hle⟩
  · exact h1 (e.trans hr)
  · exact h2 (e.trans hr)
  · rw [hr] at e
    injection e with e
    omega
theorem Two.set {w W : World} {r1 r2 : Option Nat} (h : Two w W r1 r2) {p : Addr} (hp : w.heap.size ≤ p.block) (v : Value) : Two w (W.setCell p v) r1 r2 :=
  ⟨h.os, h.tape, h.output, by simpa [World.setCell] using h.size, fun k hk h1 h2 => (Below.heap_setCell W p v k (by omega)).trans (h.block k hk h1 h2)⟩
section
variable {W W' : World} {base : Nat}
theorem ty_far {X Y : Type} {d : Kd X} {d' : Kd Y} {t t' : TypeId} {v u : Value} {xs : List X} {ys : List Y} (h : Kd.R d t W base (fun _ => True) v xs) (hu : Kd.R d' t' W base (fun _ => True) u ys) (ht : ∀ q, q ∈ t :: d.E → q ≠ t') (hg : W.grownBy W' u.ownBlock) : Kd.R d t W' base (fun _ => True) v xs := by
  cases hb : u.ownBlock with
  | none => rw [hb] at hg; exact Kd.R_grown h hg (fun k _ e => by cases e)
  | some g =>
    obtain ⟨cells, hc⟩ := own_typed (Kd.R_own hu).choose_spec g hb
    rw [hb] at hg
    exact Kd.R_mono (Kd.R_grown (Kd.R_types h hc ht) hg (fun k hk e => hk.2 (Option.some.inj e))) (fun _ _ => trivial)
theorem or3 {a : Option Nat} {c d : Option Nat} {n : Nat} (h : a = c ∨ ∃ b, a = some b ∧ n ≤ b) : a = c ∨ a = d ∨ ∃ b, a = some b ∧ n ≤ b := by
  rcases h with h | h
  · exact Or.inl h
  · exact Or.inr (Or.inr h)
theorem or3' {a : Option Nat} {c d : Option Nat} {n : Nat} (h : a = d ∨ ∃ b, a = some b ∧ n ≤ b) : a = c ∨ a = d ∨ ∃ b, a = some b ∧ n ≤ b := by
  rcases h with h | h
  · exact Or.inr (Or.inl h)
  · exact Or.inr (Or.inr h)
end
/-- The parameter's block and both lists. -/
structure Bw (w : World) (base : Nat) (A1 : Option Addr) (n1 c1 : Nat) (A2 : Option Addr) (n2 c2 : Nat) (cs : Array Value) (l1 : List SD) (l2 : List SE) (W : World) : Prop where
  bel : Below base w W
  own1 : Kd.R k58 58 W base (fun _ => True) (.slice A1 n1 c1) l1
  own2 : Kd.R k60 60 W base (fun _ => True) (.slice A2 n2 c2) l2
  box : W.heap[w.heap.size]? = some (.cells cs 46 (0, 0))
  hb : base ≤ w.heap.size
  bnd : ∀ x ∈ l1, x.f2.size ≤ 140737488351232
  two : Two w W (Value.slice A1 n1 c1).ownBlock (Value.slice A2 n2 c2).ownBlock
section
variable {w : World} {base : Nat} {A1 A2 : Option Addr} {n1 c1 n2 c2 g : Nat} {cs : Array Value} {l1 : List SD} {l2 : List SE} {W : World}
theorem Bw.step (h : Bw w base A1 n1 c1 A2 n2 c2 cs l1 l2 W) {W' : World} (hb : Below W.heap.size W W') : Bw w base A1 n1 c1 A2 n2 c2 cs l1 l2 W' :=
  ⟨below_then h.bel (Nat.le_trans h.hb h.bel.size) hb, Kd.R_below h.own1 hb, Kd.R_below h.own2 hb, (hb.block _ (blk_lt h.box)).trans h.box, h.hb, h.bnd, h.two.below hb⟩
theorem Bw.drew (h : Bw w base A1 n1 c1 A2 n2 c2 cs l1 l2 W) : Bw w base A1 n1 c1 A2 n2 c2 cs l1 l2 W.drew := h.step (below_drew (Below.refl _ _))
theorem Bw.set1 (h : Bw w base (some ⟨g, 0, none⟩) n1 c1 A2 n2 c2 cs l1 l2 W) (i : Nat) (hi : i < n1) (x : SD) (hx : x.f2.size ≤ 140737488351232) : Bw w base (some ⟨g, 0, none⟩) n1 c1 A2 n2 c2 cs (l1.set i x) l2 (W.setCells g (i * 3) [.int .u64 x.f0, .string x.f1, .string x.f2]) := by
  obtain ⟨h1, h2, _⟩ := wrD h.own1 i hi x
  obtain ⟨cells, ht⟩ := own_typed (Kd.R_own h.own1).choose_spec g rfl
  have hbx : some w.heap.size ≠ (some g) := Kd.R_ne h.own1 h.box (by decide)
  refine ⟨h.bel.grown h2 (Nat.le_trans h.hb h.bel.size) (fun k hk => ?_), h1, ?_, (h2.block _ (blk_lt h.box) hbx).trans h.box, h.hb, fun y hy => ?_, h.two.grown h2 (Or.inl rfl)⟩
  · exact Kd.R_base h.own1 k hk
  · exact Kd.R_mono (Kd.R_grown (Kd.R_types h.own2 ht (by decide)) h2 (fun k hk e => hk.2 (Option.some.inj e))) (fun _ _ => trivial)
  · rcases List.mem_or_eq_of_mem_set hy with hy | rfl
    · exact h.bnd y hy
    · exact hx
theorem Bw.set2 (h : Bw w base A1 n1 c1 (some ⟨g, 0, none⟩) n2 c2 cs l1 l2 W) (i : Nat) (hi : i < n2) (x : SE) : Bw w base A1 n1 c1 (some ⟨g, 0, none⟩) n2 c2 cs l1 (l2.set i x) (W.setCells g (i * 3) [.int .u64 x.f0, .int .u64 x.f1, .string x.f2]) := by
  obtain ⟨h1, h2, _⟩ := wrE h.own2 i hi x
  obtain ⟨cells, ht⟩ := own_typed (Kd.R_own h.own2).choose_spec g rfl
  have hbx : some w.heap.size ≠ (some g) := Kd.R_ne h.own2 h.box (by decide)
  refine ⟨h.bel.grown h2 (Nat.le_trans h.hb h.bel.size) (fun k hk => ?_), ?_, h1, (h2.block _ (blk_lt h.box) hbx).trans h.box, h.hb, h.bnd, h.two.grown h2 (Or.inr (Or.inl rfl))⟩
  · exact Kd.R_base h.own2 k hk
  · exact Kd.R_mono (Kd.R_grown (Kd.R_types h.own1 ht (by decide)) h2 (fun k hk e => hk.2 (Option.some.inj e))) (fun _ _ => trivial)
theorem Bw.len1 (h : Bw w base A1 n1 c1 A2 n2 c2 cs l1 l2 W) : n1 = l1.length := (Kd.R_reads' h.own1).1
theorem Bw.at1 (h : Bw w base A1 n1 c1 A2 n2 c2 cs l1 l2 W) (i : Nat) (hi : i < n1) : (l1.getD i z58).f2.size ≤ 140737488351232 := by
  have hl := h.len1
  rw [List.getD_eq_getElem?_getD, List.getElem?_eq_getElem (by omega), Option.getD_some]
  exact h.bnd _ (List.getElem_mem _)
end
/-- What is left behind: lists, as long, in the same rows. -/
structure Bk (w : World) (base : Nat) (A1 : Option Addr) (n1 c1 : Nat) (A2 : Option Addr) (n2 c2 : Nat) (W : World) : Prop where
  bel : Below base w W
  two : Two w W (Value.slice A1 n1 c1).ownBlock (Value.slice A2 n2 c2).ownBlock
  ex : ∃ (l1 : List SD) (l2 : List SE), Kd.R k58 58 W base (fun _ => True) (.slice A1 n1 c1) l1 ∧ Kd.R k60 60 W base (fun _ => True) (.slice A2 n2 c2) l2 ∧ ∀ x ∈ l1, x.f2.size ≤ 140737488351233
theorem Bw.done {w : World} {base : Nat} {A1 A2 : Option Addr} {n1 c1 n2 c2 : Nat} {cs : Array Value} {l1 : List SD} {l2 : List SE} {W : World} (h : Bw w base A1 n1 c1 A2 n2 c2 cs l1 l2 W) : Bk w base A1 n1 c1 A2 n2 c2 W :=
  ⟨h.bel, h.two, l1, l2, h.own1, h.own2, fun x hx => by have := h.bnd x hx; omega⟩
theorem Bw.longer {w : World} {base : Nat} {A2 : Option Addr} {c1 n2 c2 g : Nat} {cs : Array Value} {l1 : List SD} {l2 : List SE} {W : World} (h : Bw w base (some ⟨g, 0, none⟩) 1 c1 A2 n2 c2 cs l1 l2 W) (s : ByteArray) (hs : s.size ≤ 140737488351233) : Bk w base (some ⟨g, 0, none⟩) 1 c1 A2 n2 c2 (W.setCell ⟨g, 2, none⟩ (.string s)).drew := by
  obtain ⟨hl, hnc, hC⟩ := Kd.R_reads' h.own1
  obtain ⟨ad, cs, e1, e2, e3, e4⟩ := ReadsRow.get_ hC z58 (0 : Int) (by omega) (by omega)
  obtain rfl := Option.some.inj e1
  have e5 := k58_open e3
  obtain ⟨hr, hg⟩ := Kd.R_seg (okp := fun _ => False) (x' := (⟨(rd_T58 l1 0).f0, (rd_T58 l1 0).f1, s⟩ : SD)) (seg := [.string s]) (j := 2) h.own1 (0 : Int) (by omega) (by omega) e2 (fun j u hu => by have := e4 j u hu; rwa [add_plain] at this) (show 2 + 1 ≤ 3 by omega) (by
    rw [e5]
    exact k58_mkM _ _ _ (⟨(rd_T58 l1 0).f0, (rd_T58 l1 0).f1, s⟩ : SD)) (fun _ hk => hk.elim)
  have hw : W.setCells g ((0 : Int).toNat * k58.sz + 2) [.string s] = W.setCell ⟨g, 2, none⟩ (.string s) := rfl
  rw [hw] at hr hg
  obtain ⟨cells, ht⟩ := own_typed (Kd.R_own h.own1).choose_spec g rfl
  have h0 : Bk w base (some ⟨g, 0, none⟩) 1 c1 A2 n2 c2 (W.setCell ⟨g, 2, none⟩ (.string s)) := by
    refine ⟨h.bel.grown hg (Nat.le_trans h.hb h.bel.size) (fun k hk => Kd.R_base h.own1 k hk), h.two.grown hg (Or.inl rfl), _, l2, hr, Kd.R_mono (Kd.R_grown (Kd.R_types h.own2 ht (by decide)) hg (fun k hk e => hk.2 (Option.some.inj e))) (fun _ _ => trivial), fun y hy => ?_⟩
    rcases List.mem_or_eq_of_mem_set hy with hy | rfl
    · have := h.bnd y hy; omega
    · exact hs
  obtain ⟨q1, qt, m1, m2, q2, q3, q4⟩ := h0
  exact ⟨below_drew q1, qt.below (below_drew (Below.refl _ _)), m1, m2, Kd.R_drew q2, Kd.R_drew q3, q4⟩
set_option maxRecDepth 100000 in
set_option maxHeartbeats 8000000 in
theorem back_any (id lo hi gen : Int) (A1 : Option Addr) (n1 c1 : Nat) (ds : List SD) (A2 : Option Addr) (n2 c2 : Nat) (es : List SE) (w : World) (base : Nat) (hR1 : Kd.R k58 58 w base (fun _ => True) (.slice A1 n1 c1) ds) (hR2 : Kd.R k60 60 w base (fun _ => True) (.slice A2 n2 c2) es) (hb : base ≤ w.heap.size) (h1 : ds.length ≤ 4611686018427) (h2 : es.length ≤ 4611686018427) (hs : ∀ x ∈ ds, x.f2.size ≤ 140737488351232) :
    Calls Tryd.prog 19 #[.agg #[.int .i64 id, .int .u64 lo, .int .u64 hi, .slice A1 n1 c1, .int .i64 gen, .slice A2 n2 c2]] w fun e w' => e = .returned (.tuple #[]) ∧ Bk w base A1 n1 c1 A2 n2 c2 w' := by
  have hn1 : n1 = ds.length := (Kd.R_reads' hR1).1
  have hn2 : n2 = es.length := (Kd.R_reads' hR2).1
  have h1' : n1 ≤ 4611686018427 := by omega
  have h2' : n2 ≤ 4611686018427 := by omega
  have HN : Aside0 (Bw w base A1 n1 c1 A2 n2 c2 #[.int .i64 id, .int .u64 lo, .int .u64 hi, .slice A1 n1 c1, .int .i64 gen, .slice A2 n2 c2] ds es (w.alloc (.cells #[.int .i64 id, .int .u64 lo, .int .u64 hi, .slice A1 n1 c1, .int .i64 gen, .slice A2 n2 c2] 46))) :=
    ⟨⟨(Below.refl _ _).alloc hb _, Kd.R_below hR1 (below_alloc (Below.refl _ _) _), Kd.R_below hR2 (below_alloc (Below.refl _ _) _), heap_alloc_new _ _, hb, hs, (Two.refl _ _ _).below (below_alloc (Below.refl _ _) _)⟩⟩
  clear hR1 hR2 hs hn1 hn2 h1 h2
  go_enter Tryd.func19, Tryd.ntmps19
  have c3 : _ = some (Value.slice A1 n1 c1) := (blk_cell HN.out.box 3).trans rfl
  have c5 : _ = some (Value.slice A2 n2 c2) := (blk_cell HN.out.box 5).trans rfl
  go_wp2
  go_loopw [3] (fun v3 wr => ∃ (k : Nat) (l : List SD), k ≤ n1 ∧ v3 = .int .i64 (k : Int) ∧ Aside0 (Bw w base A1 n1 c1 A2 n2 c2 #[.int .i64 id, .int .u64 lo, .int .u64 hi, .slice A1 n1 c1, .int .i64 gen, .slice A2 n2 c2] l es wr)) (fun v3 _ => n1 - (intOf v3).toNat)
  case atStart => exact ⟨0, ds, by omega, rfl, HN⟩
  case round =>
    clear HN c3 c5
    obtain ⟨i, l, hki, rfl, HN⟩ := hrel
    have c3 : _ = some (Value.slice A1 n1 c1) := (blk_cell HN.out.box 3).trans rfl
    by_cases hlt : (i : Int) < (n1 : Int) / 2
    · obtain ⟨g, rfl⟩ : ∃ g, A1 = some ⟨g, 0, none⟩ := by
        rcases own_form HN.out.own1 with ⟨_, h2, _⟩ | h
        · omega
        · exact h
      obtain ⟨j, hj⟩ : ∃ j : Nat, n1 = i + 1 + j := ⟨n1 - i - 1, by omega⟩
      obtain ⟨a0, a1, a2⟩ := clD HN.out.own1 i (by omega)
      obtain ⟨b0, b1, b2⟩ := clD HN.out.own1 j (by omega)
      have fa0 := frz HN.out.own1 (i * 3)
      have fa1 := frz HN.out.own1 (i * 3 + 1)
      have fa2 := frz HN.out.own1 (i * 3 + 2)
      have fb0 := frz HN.out.own1 (j * 3)
      have fb1 := frz HN.out.own1 (j * 3 + 1)
      have fb2 := frz HN.out.own1 (j * 3 + 2)
      have e0 : (n1 : Int) - 1 - (i : Int) = (j : Int) := by omega
      have j0 : (0 : Int) ≤ (j : Int) := by omega
      have j1 : (j : Int) < (n1 : Int) := by omega
      have i0 : (0 : Int) ≤ (i : Int) := by omega
      have i1 : (i : Int) < (n1 : Int) := by omega
      have hij : i < j := by omega
      clear hj
      go_wp2
      have hx := HN.out.at1 i (by omega)
      have hy := HN.out.at1 j (by omega)
      generalize (l.getD i z58) = x at a0 a1 a2 hx
      generalize (l.getD j z58) = y at b0 b1 b2 hy
      have HX := Aside0.mk hx
      have HY := Aside0.mk hy
      clear hx hy
      have gne : w.heap.size ≠ g := fun e => Kd.R_ne HN.out.own1 HN.out.box (by decide) (by rw [e]; rfl)
      have gne2 : g ≠ w.heap.size := fun e => gne e.symm
      have oij : i * 3 ≠ j * 3 := by omega
      go_region
      have HN2 := Aside0.mk ((HN.out.set1 i (by omega) y HY.out).set1 j (by omega) x HX.out).drew
      clear HN
      go_wp2
      go_roundw
      case rel => exact ⟨i + 1, _, by omega, by go_num, HN2⟩
      case measure => simp [intOf]; omega
    · have c5 : _ = some (Value.slice A2 n2 c2) := (blk_cell HN.out.box 5).trans rfl
      go_wp2
      clear hlt c3 c5
      go_loopw [4] (fun v4 wr => ∃ (k : Nat) (l2 : List SE), k ≤ n2 ∧ v4 = .int .i64 (k : Int) ∧ Aside0 (Bw w base A1 n1 c1 A2 n2 c2 #[.int .i64 id, .int .u64 lo, .int .u64 hi, .slice A1 n1 c1, .int .i64 gen, .slice A2 n2 c2] l l2 wr)) (fun v4 _ => n2 - (intOf v4).toNat)
      case atStart => exact ⟨0, es, by omega, rfl, HN⟩
      case round =>
        clear HN
        obtain ⟨i2, l2, hi2, rfl, HN⟩ := hrel
        have c5 : _ = some (Value.slice A2 n2 c2) := (blk_cell HN.out.box 5).trans rfl
        by_cases hlt : (i2 : Int) < (n2 : Int) / 2
        · obtain ⟨g, rfl⟩ : ∃ g, A2 = some ⟨g, 0, none⟩ := by
            rcases own_form HN.out.own2 with ⟨_, h2, _⟩ | h
            · omega
            · exact h
          obtain ⟨j, hj⟩ : ∃ j : Nat, n2 = i2 + 1 + j := ⟨n2 - i2 - 1, by omega⟩
          obtain ⟨a0, a1, a2⟩ := clE HN.out.own2 i2 (by omega)
          obtain ⟨b0, b1, b2⟩ := clE HN.out.own2 j (by omega)
          have fa0 := frz HN.out.own2 (i2 * 3)
          have fa1 := frz HN.out.own2 (i2 * 3 + 1)
          have fa2 := frz HN.out.own2 (i2 * 3 + 2)
          have fb0 := frz HN.out.own2 (j * 3)
          have fb1 := frz HN.out.own2 (j * 3 + 1)
          have fb2 := frz HN.out.own2 (j * 3 + 2)
          have e0 : (n2 : Int) - 1 - (i2 : Int) = (j : Int) := by omega
          have j0 : (0 : Int) ≤ (j : Int) := by omega
          have j1 : (j : Int) < (n2 : Int) := by omega
          have i0 : (0 : Int) ≤ (i2 : Int) := by omega
          have i1 : (i2 : Int) < (n2 : Int) := by omega
          have hij : i2 < j := by omega
          clear hj
          go_wp2
          generalize (l2.getD i2 z60) = x at a0 a1 a2
          generalize (l2.getD j z60) = y at b0 b1 b2
          have gne : w.heap.size ≠ g := fun e => Kd.R_ne HN.out.own2 HN.out.box (by decide) (by rw [e]; rfl)
          have gne2 : g ≠ w.heap.size := fun e => gne e.symm
          have oij : i2 * 3 ≠ j * 3 := by omega
          go_region
          have HN2 := Aside0.mk ((HN.out.set2 i2 (by omega) y).set2 j (by omega) x).drew
          clear HN
          go_wp2
          go_roundw
          case rel => exact ⟨i2 + 1, _, by omega, by go_num, HN2⟩
          case measure => simp [intOf]; omega
        · have c3 : _ = some (Value.slice A1 n1 c1) := (blk_cell HN.out.box 3).trans rfl
          by_cases h1 : n1 = 1
          · subst h1
            obtain ⟨g, rfl⟩ : ∃ g, A1 = some ⟨g, 0, none⟩ := by
              rcases own_form HN.out.own1 with ⟨_, h2, _⟩ | h
              · omega
              · exact h
            obtain ⟨_, _, a2⟩ := clD HN.out.own1 0 (by omega)
            have fa2 := frz HN.out.own1 2
            have hx := HN.out.at1 0 (by omega)
            rw [show 0 * 3 + 2 = 2 from rfl] at a2
            have HN1 := HN
            generalize hxe : (l.getD 0 z58) = x at a2 hx
            have HX := Aside0.mk hxe
            clear hxe
            have gne : w.heap.size ≠ g := fun e => Kd.R_ne HN.out.own1 HN.out.box (by decide) (by rw [e]; rfl)
            have gne2 : g ≠ w.heap.size := fun e => gne e.symm
            go_wp2
            go_region
            have HN2 := Aside0.mk (HN.out.longer (x.f2 ++ ⟨#[120]⟩) (by rw [app_size]; show x.f2.size + 1 ≤ 140737488351233; omega))
            clear HN HN1 a2 fa2
            go_wp2
            go_end0
            exact ⟨rfl, HN2.out⟩
          · have hone : ((n1 : Int) == 1) = false := by rw [beq_eq_false_iff_ne]; omega
            go_wp2
            go_end0
            exact ⟨rfl, HN.out.done⟩
end Go.Proofs.YtejjidggnnhgjaaDoor.HImBk
/- marked, of layer 12's statements: a pair's lists written full and made longer touch those lists alone. -/
set_option linter.unusedVariables false
set_option linter.unusedSimpArgs false
namespace Go.Proofs.YtejjidggnnhgjaaDoor.HImMk
open Go.RowKit Go.Proofs.YtejjidggnnhgjaaDoor.PImg Go.Proofs.YtejjidggnnhgjaaDoor.HImP Go.Proofs.YtejjidggnnhgjaaDoor.HImD Go.Proofs.YtejjidggnnhgjaaDoor.HImL Go.Proofs.YtejjidggnnhgjaaDoor.HImNm Go.Proofs.YtejjidggnnhgjaaDoor.HImBk Go.Proofs.YtejjidggnnhgjaaDoorW.PrintWords Go.Proofs.YtejjidggnnhgjaaDoorW.PrintLast Go.Proofs.YtejjidggnnhgjaaDoorW.PrintMore Go.Proofs.YtejjidggnnhgjaaDoor.HCore
/-- The parameter's block and both lists. -/
structure Mw (w : World) (base : Nat) (v1 v2 : Value) (cs : Array Value) (u1 u2 : Value) (l1 : List SD) (l2 : List SE) (W : World) : Prop where
  two : Two w W v1.ownBlock v2.ownBlock
  bel : Below base w W
  own1 : Kd.R k58 58 W base (fun _ => True) u1 l1
  own2 : Kd.R k60 60 W base (fun _ => True) u2 l2
  box : W.heap[w.heap.size]? = some (.cells cs 46 (0, 0))
  hb : base ≤ w.heap.size
  b1 : u1.ownBlock = v1.ownBlock ∨ ∃ b, u1.ownBlock = some b ∧ w.heap.size ≤ b
  b2 : u2.ownBlock = v2.ownBlock ∨ ∃ b, u2.ownBlock = some b ∧ w.heap.size ≤ b
section
variable {w : World} {base : Nat} {v1 v2 u1 u2 u1' u2' : Value} {cs : Array Value} {l1 l1' : List SD} {l2 l2' : List SE} {W W' : World}
theorem Mw.step (h : Mw w base v1 v2 cs u1 u2 l1 l2 W) (hb : Below W.heap.size W W') : Mw w base v1 v2 cs u1 u2 l1 l2 W' :=
  ⟨h.two.below hb, below_then h.bel (Nat.le_trans h.hb h.bel.size) hb, Kd.R_below h.own1 hb, Kd.R_below h.own2 hb, (hb.block _ (blk_lt h.box)).trans h.box, h.hb, h.b1, h.b2⟩
theorem blk_or {a a' c : Option Nat} {n m : Nat} (h : a = c ∨ ∃ b, a = some b ∧ n ≤ b) (hat : a' = a ∨ ∃ b, a' = some b ∧ m ≤ b) (hn : n ≤ m) : a' = c ∨ ∃ b, a' = some b ∧ n ≤ b := by
  rcases hat with hat | ⟨b, hb, hle⟩
  · rw [hat]; exact h
  · exact Or.inr ⟨b, hb, by omega⟩
theorem Mw.grow1 (h : Mw w base v1 v2 cs u1 u2 l1 l2 W) (hg : W.grownBy W' u1.ownBlock) (ho : Kd.R k58 58 W' base (fun _ => True) u1' l1') (hat : u1'.ownBlock = u1.ownBlock ∨ ∃ b, u1'.ownBlock = some b ∧ W.heap.size ≤ b) : Mw w base v1 v2 cs u1' u2 l1' l2 W' :=
  ⟨h.two.grown hg (or3 h.b1), h.bel.grown hg (Nat.le_trans h.hb h.bel.size) (fun k hk => Kd.R_base h.own1 k hk), ho, ty_far h.own2 h.own1 (by decide) hg, (hg.block _ (blk_lt h.box) (Kd.R_ne h.own1 h.box (by decide))).trans h.box, h.hb, blk_or h.b1 hat h.two.size, h.b2⟩
theorem Mw.grow2 (h : Mw w base v1 v2 cs u1 u2 l1 l2 W) (hg : W.grownBy W' u2.ownBlock) (ho : Kd.R k60 60 W' base (fun _ => True) u2' l2') (hat : u2'.ownBlock = u2.ownBlock ∨ ∃ b, u2'.ownBlock = some b ∧ W.heap.size ≤ b) : Mw w base v1 v2 cs u1 u2' l1 l2' W' :=
  ⟨h.two.grown hg (or3' h.b2), h.bel.grown hg (Nat.le_trans h.hb h.bel.size) (fun k hk => Kd.R_base h.own2 k hk), ty_far h.own1 h.own2 (by decide) hg, ho, (hg.block _ (blk_lt h.box) (Kd.R_ne h.own2 h.box (by decide))).trans h.box, h.hb, h.b1, blk_or h.b2 hat h.two.size⟩
theorem Mw.put (h : Mw w base v1 v2 cs u1 u2 l1 l2 W) (j : Nat) (u : Value) : Mw w base v1 v2 (cs.setIfInBounds j u) u1 u2 l1 l2 (W.setCell ⟨w.heap.size, j, none⟩ u) :=
  ⟨h.two.set (p := ⟨w.heap.size, j, none⟩) (Nat.le_refl _) u, h.bel.setCell (p := ⟨w.heap.size, j, none⟩) h.hb u, Kd.R_set h.own1 h.box (by decide) j u, Kd.R_set h.own2 h.box (by decide) j u, blk_set h.box j u, h.hb, h.b1, h.b2⟩
theorem Mw.put1 {g n c : Nat} (h : Mw w base v1 v2 cs (.slice (some ⟨g, 0, none⟩) n c) u2 l1 l2 W) (i : Nat) (hi : i < n) (x : SD) :
    Mw w base v1 v2 cs (.slice (some ⟨g, 0, none⟩) n c) u2 (l1.set i x) l2 (W.setCells g (i * 3) [.int .u64 x.f0, .string x.f1, .string x.f2])
    ∧ ∀ (v : Value), v.cells.toList = [.int .u64 x.f0, .string x.f1, .string x.f2] → (Instr.storeAt 58 (.pointer (some ⟨g, i * 3, none⟩)) v).run Tryd.prog W = .ok () (W.setCells g (i * 3) [.int .u64 x.f0, .string x.f1, .string x.f2]) := by
  obtain ⟨h1, h2, h3⟩ := wrD h.own1 i hi x
  exact ⟨h.grow1 h2 h1 (Or.inl rfl), h3⟩
theorem Mw.put2 {g n c : Nat} (h : Mw w base v1 v2 cs u1 (.slice (some ⟨g, 0, none⟩) n c) l1 l2 W) (i : Nat) (hi : i < n) (x : SE) :
    Mw w base v1 v2 cs u1 (.slice (some ⟨g, 0, none⟩) n c) l1 (l2.set i x) (W.setCells g (i * 3) [.int .u64 x.f0, .int .u64 x.f1, .string x.f2])
    ∧ ∀ (v : Value), v.cells.toList = [.int .u64 x.f0, .int .u64 x.f1, .string x.f2] → (Instr.storeAt 60 (.pointer (some ⟨g, i * 3, none⟩)) v).run Tryd.prog W = .ok () (W.setCells g (i * 3) [.int .u64 x.f0, .int .u64 x.f1, .string x.f2]) := by
  obtain ⟨h1, h2, h3⟩ := wrE h.own2 i hi x
  exact ⟨h.grow2 h2 h1 (Or.inl rfl), h3⟩
end
def xS : ByteArray := ⟨#[120]⟩
def mS : ByteArray := ⟨#[109, 97, 114, 107, 101, 100]⟩
def yS : ByteArray := ⟨#[121]⟩
def oS : ByteArray := ⟨#[109, 111, 114, 101]⟩
set_option maxRecDepth 100000 in
set_option maxHeartbeats 8000000 in
theorem marked_any (id lo hi gen : Int) (A1 : Option Addr) (n1 c1 : Nat) (ds : List SD) (A2 : Option Addr) (n2 c2 : Nat) (es : List SE) (w : World) (base : Nat) (hR1 : Kd.R k58 58 w base (fun _ => True) (.slice A1 n1 c1) ds) (hR2 : Kd.R k60 60 w base (fun _ => True) (.slice A2 n2 c2) es) (hb : base ≤ w.heap.size) (h1 : ds.length ≤ 1000000000) (h2 : es.length ≤ 1000000000) :
    Calls Tryd.prog 22 #[.agg #[.int .i64 id, .int .u64 lo, .int .u64 hi, .slice A1 n1 c1, .int .i64 gen, .slice A2 n2 c2]] w fun e w' => e = .returned (.tuple #[]) ∧ Two w w' (Value.slice A1 n1 c1).ownBlock (Value.slice A2 n2 c2).ownBlock ∧ Below base w w' := by
  have hn1 : n1 = ds.length := (Kd.R_reads' hR1).1
  have hn2 : n2 = es.length := (Kd.R_reads' hR2).1
  subst hn1
  subst hn2
  have HN : Aside0 (Mw w base (.slice A1 ds.length c1) (.slice A2 es.length c2) #[.int .i64 id, .int .u64 lo, .int .u64 hi, .slice A1 ds.length c1, .int .i64 gen, .slice A2 es.length c2] (.slice A1 ds.length c1) (.slice A2 es.length c2) ds es (w.alloc (.cells #[.int .i64 id, .int .u64 lo, .int .u64 hi, .slice A1 ds.length c1, .int .i64 gen, .slice A2 es.length c2] 46))) :=
    ⟨⟨(Two.refl _ _ _).below (below_alloc (Below.refl _ _) _), (Below.refl _ _).alloc hb _, Kd.R_below hR1 (below_alloc (Below.refl _ _) _), Kd.R_below hR2 (below_alloc (Below.refl _ _) _), heap_alloc_new _ _, hb, Or.inl rfl, Or.inl rfl⟩⟩
  have HD : Aside0 (ds.length ≤ 1000000000) := ⟨h1⟩
  have HE : Aside0 (es.length ≤ 1000000000) := ⟨h2⟩
  clear hR1 hR2
  go_enter Tryd.func22, Tryd.ntmps22
  go_wp2
  go_loopw [2] (fun v2 wr => ∃ (k : Nat) (l : List SD), k ≤ ds.length ∧ v2 = .int .i64 (k : Int) ∧ Aside0 (l.length = ds.length) ∧ Aside0 (Mw w base (.slice A1 ds.length c1) (.slice A2 es.length c2) #[.int .i64 id, .int .u64 lo, .int .u64 hi, .slice A1 ds.length c1, .int .i64 gen, .slice A2 es.length c2] (.slice A1 ds.length c1) (.slice A2 es.length c2) l es wr)) (fun v2 _ => ds.length - (intOf v2).toNat)
  case atStart => exact ⟨0, ds, by omega, rfl, ⟨rfl⟩, HN⟩
  case round =>
    clear HN
    obtain ⟨k, l, hk, rfl, HLn, HN⟩ := hrel
    have c3 : _ = some (Value.slice A1 ds.length c1) := (blk_cell HN.out.box 3).trans rfl
    by_cases hlt : k < ds.length
    · obtain ⟨g, rfl⟩ : ∃ g, A1 = some ⟨g, 0, none⟩ := by
        rcases own_form HN.out.own1 with ⟨_, h2, _⟩ | h
        · omega
        · exact h
      obtain ⟨r1, r2⟩ := HN.out.put1 k hlt (⟨(k : Int), xS, mS⟩ : SD)
      have HQ1 := Aside0.mk r1
      have HQ3 := Aside0.mk r2
      clear r1 r2
      go_wp2_with (first | ((with_reducible refine gate_store (t := 58) (p := 18) rfl ?_); go_loud (refine store_event (t := 58) (p := 18) (v := ?vo) (w1 := wr.setCells g (k * 3) [.int .u64 (k : Int), .string xS, .string mS]) ?hg ?ho ?hn ?hr ?_; (case ho => rfl); (case hg => rfl); (case hn => rfl); (case hr => exact store_run rfl (by first | rfl | (go_simp; done) | (go_simp; rfl)) (by rfl) (HQ3.out _ (by rfl))); intro w6 hw; rw [← hw] at HQ1; clear hw)))
      go_roundw
      case rel => exact ⟨k + 1, _, by omega, by go_num, ⟨by rw [List.length_set]; exact HLn.out⟩, ⟨HQ1.out⟩⟩
      case measure => simp [intOf]; omega
    · go_wp2
      clear hlt c3
      go_loopw [3] (fun v3 wr => ∃ (k : Nat) (l2 : List SE), k ≤ es.length ∧ v3 = .int .i64 (k : Int) ∧ Aside0 (l2.length = es.length) ∧ Aside0 (Mw w base (.slice A1 ds.length c1) (.slice A2 es.length c2) #[.int .i64 id, .int .u64 lo, .int .u64 hi, .slice A1 ds.length c1, .int .i64 gen, .slice A2 es.length c2] (.slice A1 ds.length c1) (.slice A2 es.length c2) l l2 wr)) (fun v3 _ => es.length - (intOf v3).toNat)
      case atStart => exact ⟨0, es, by omega, rfl, ⟨rfl⟩, HN⟩
      case round =>
        clear HN
        obtain ⟨k2, l2, hk2, rfl, HLe, HN⟩ := hrel
        have c5 : _ = some (Value.slice A2 es.length c2) := (blk_cell HN.out.box 5).trans rfl
        by_cases hlt : k2 < es.length
        · obtain ⟨g, rfl⟩ : ∃ g, A2 = some ⟨g, 0, none⟩ := by
            rcases own_form HN.out.own2 with ⟨_, h2, _⟩ | h
            · omega
            · exact h
          obtain ⟨r1, r2⟩ := HN.out.put2 k2 hlt (⟨7, (k2 : Int), xS⟩ : SE)
          have HQ1 := Aside0.mk r1
          have HQ3 := Aside0.mk r2
          clear r1 r2
          go_wp2_with (first | ((with_reducible refine gate_store (t := 60) (p := 32) rfl ?_); go_loud (refine store_event (t := 60) (p := 32) (v := ?vo2) (w1 := wr.setCells g (k2 * 3) [.int .u64 7, .int .u64 (k2 : Int), .string xS]) ?hg2 ?ho2 ?hn2 ?hr2 ?_; (case ho2 => rfl); (case hg2 => rfl); (case hn2 => rfl); (case hr2 => exact store_run rfl (by first | rfl | (go_simp; done) | (go_simp; rfl)) (by rfl) (HQ3.out _ (by rfl))); intro w6 hw; rw [← hw] at HQ1; clear hw)))
          go_roundw
          case rel => exact ⟨k2 + 1, _, by omega, by go_num, ⟨by rw [List.length_set]; exact HLe.out⟩, ⟨HQ1.out⟩⟩
          case measure => simp [intOf]; omega
        · go_wp2
          clear hlt c5
          have HL1 : Aside0 (l.length ≤ 1000000000) := ⟨by rw [HLn.out]; exact HD.out⟩
          have HL2 : Aside0 (l2.length ≤ 1000000000) := ⟨by rw [HLe.out]; exact HE.out⟩
          clear HLn HLe HD HE
          have hk20 := hk2
          go_loopw [4] (fun v4 wr => ∃ (i : Nat) (A3 : Option Addr) (m3 q3 : Nat) (A4 : Option Addr) (m4 q4 : Nat) (l : List SD) (l2 : List SE), i ≤ 20 ∧ v4 = .int .i64 (i : Int) ∧ Aside0 (l.length ≤ 1000000000 + i) ∧ Aside0 (l2.length ≤ 1000000000 + i) ∧ Aside0 (Mw w base (.slice A1 ds.length c1) (.slice A2 es.length c2) #[.int .i64 id, .int .u64 lo, .int .u64 hi, .slice A3 m3 q3, .int .i64 gen, .slice A4 m4 q4] (.slice A3 m3 q3) (.slice A4 m4 q4) l l2 wr)) (fun v4 _ => 20 - (intOf v4).toNat)
          case atStart => exact ⟨0, _, _, _, _, _, _, l, l2, by omega, rfl, ⟨by have := HL1.out; omega⟩, ⟨by have := HL2.out; omega⟩, HN⟩
          case round =>
            clear HN HL1 HL2
            obtain ⟨i, A3, m3, q3, A4, m4, q4, l, l2, hi, rfl, HL1, HL2, HN⟩ := hrel
            by_cases hlt2 : i < 20
            · have c3 : _ = some (Value.slice A3 m3 q3) := (blk_cell HN.out.box 3).trans rfl
              go_wp2_with (first | ((with_reducible refine gate_builtin (b := .append) (xs := #[.tmp 38, .tmp 40]) rfl ?_); go_loud (at_builtin; refine Kd.R_append k58 (w0 := w) base rfl (.tmp 38) (.tmp 40) 43 58 (.agg #[.int .u64 0, .string ByteArray.empty, .string ByteArray.empty]) 40 rfl Tryd.underlying43 info58 rfl (by decide) (by omega) (.slice A3 m3 q3) l (⟨0, yS, oS⟩ : SD) [.int .u64 0, .string yS, .string oS] (fun _ => True) (fun _ => False) rfl (by first | (go_simp; done) | (go_simp; rfl)) ?aP (fun _ hk => hk.elim) (fun _ _ => trivial) ?aO ?aB ?aS ?aL ?_; (case aP => exact k58_mkM _ _ _ (⟨0, yS, oS⟩ : SD)); (case aO => exact HN.out.own1); (case aB => exact HN.out.bel); (case aS => exact Nat.le_trans HN.out.hb HN.out.bel.size); (case aL => exact (by have := HL1.out; omega)); clear c3; intro u' w99 ho hbb hg hat; obtain ⟨A5, q5, m5, hm5, rfl⟩ := sl_form ho; clear hm5; have HQ := Aside0.mk (HN.out.grow1 hg ho hat); have c3 : _ = some (Value.slice A3 m3 q3) := (blk_cell HQ.out.box 3).trans rfl; have f3 := blk_frozen HQ.out.box 3; have c5 : _ = some (Value.slice A4 m4 q4) := (blk_cell HQ.out.box 5).trans rfl; have HM := Aside0.mk (HQ.out.put 3 (.slice A5 m5 q5)); clear ho hbb hg hat)) | ((with_reducible refine gate_builtin (b := .append) (xs := #[.tmp 44, .tmp 46]) rfl ?_); go_loud (at_builtin; refine Kd.R_append k60 (w0 := w) base rfl (.tmp 44) (.tmp 46) 44 60 (.agg #[.int .u64 0, .int .u64 0, .string ByteArray.empty]) 32 rfl Tryd.underlying44 info60 rfl (by decide) (by omega) (.slice A4 m4 q4) l2 (⟨9, 0, yS⟩ : SE) [.int .u64 9, .int .u64 0, .string yS] (fun _ => True) (fun _ => False) rfl (by first | (go_simp; done) | (go_simp; rfl)) ?bP (fun _ hk => hk.elim) (fun _ _ => trivial) ?bO ?bB ?bS ?bL ?_; (case bP => exact k60_mkM _ _ _ (⟨9, 0, yS⟩ : SE)); (case bO => exact HM.out.own2); (case bB => exact HM.out.bel); (case bS => exact Nat.le_trans HM.out.hb HM.out.bel.size); (case bL => exact (by have := HL2.out; omega)); clear c5 f3 c3; intro u7 w98 ho hbb hg hat; obtain ⟨A7, q7, m7, hm7, rfl⟩ := sl_form ho; clear hm7; have HQ7 := Aside0.mk (HM.out.grow2 hg ho hat); have c5 : _ = some (Value.slice A4 m4 q4) := (blk_cell HQ7.out.box 5).trans rfl; have f5 := blk_frozen HQ7.out.box 5; have HM7 := Aside0.mk (HQ7.out.put 5 (.slice A7 m7 q7)); clear ho hbb hg hat)))
              go_roundw
              case rel => exact ⟨i + 1, _, _, _, _, _, _, _, _, by omega, by go_num, ⟨by rw [List.length_append, List.length_singleton]; have := HL1.out; omega⟩, ⟨by rw [List.length_append, List.length_singleton]; have := HL2.out; omega⟩, HM7⟩
              case measure => simp [intOf]; omega
            · go_wp2
              go_end0
              exact ⟨rfl, HN.out.two, HN.out.bel⟩
end Go.Proofs.YtejjidggnnhgjaaDoor.HImMk
/- A loose reading that is laid down again as it was is the strict one. Plain laws. -/
set_option linter.unusedVariables false
set_option linter.unusedSimpArgs false
namespace Go.Proofs.YtejjidggnnhgjaaDoor.HImS2
open Go.RowKit Go.Proofs.YtejjidggnnhgjaaDoor.PImg Go.Proofs.YtejjidggnnhgjaaDoor.HBlob Go.Proofs.YtejjidggnnhgjaaDoor.HCk Go.Proofs.YtejjidggnnhgjaaDoor.HImgR Go.Proofs.YtejjidggnnhgjaaDoor.HImgO Go.Proofs.YtejjidggnnhgjaaDoor.HImP Go.Proofs.YtejjidggnnhgjaaDoor.HImD Go.Proofs.YtejjidggnnhgjaaDoor.HImE Go.Proofs.YtejjidggnnhgjaaDoor.HImF Go.Proofs.YtejjidggnnhgjaaDoor.HImS Go.Proofs.YtejjidggnnhgjaaDoorW.PrintWords Go.Proofs.YtejjidggnnhgjaaDoorW.PrintLast Go.Proofs.YtejjidggnnhgjaaDoor.HCore
theorem looseE_yes {b : ByteArray} (ho : opn b ltE = 0) {r : (Int × Int × List SE) × Bool} (hr : ldE (ins b) = r) (hb : r.2 = false) (hg : gdE r.1.1 r.1.2.1 r.1.2.2 = true) (hf : fileOf ltE (byE r.1.1 r.1.2.1 r.1.2.2) = b) : HImDe.val b = r.1 ∧ HImDe.code b = 0 := by
  have hl := (file_iff rfl ho).1 hf
  obtain ⟨q, h1, h2⟩ := dcE_fwd (t := []) hg (by rw [List.append_nil]; exact hl.symm)
  exact HImDe.some_val ho h1 (h2.end_iff.2 rfl)
theorem looseE_no {b : ByteArray} (ho : opn b ltE = 0) {r : (Int × Int × List SE) × Bool} (hr : ldE (ins b) = r) (hn : ¬ (r.2 = false ∧ gdE r.1.1 r.1.2.1 r.1.2.2 = true ∧ fileOf ltE (byE r.1.1 r.1.2.1 r.1.2.2) = b)) : HImDe.val b = (0, 0, []) ∧ HImDe.code b = 125 := by
  cases hd : dcE (ins b) with
  | none => exact HImDe.none_val ho hd
  | some x =>
    by_cases hx : x.2 = ((ins b).size : Int)
    · exfalso
      obtain ⟨⟨id, gen, es⟩, q⟩ := x
      obtain ⟨g, t, e, hs⟩ := dcE_drop hd
      have ht : t = [] := hs.end_iff.1 hx
      subst ht
      rw [List.append_nil] at e
      have h5 := ldE_fwd g e
      rw [hr] at h5
      subst h5
      exact hn ⟨rfl, g, (file_iff rfl ho).2 e.symm⟩
    · exact HImDe.short_val ho hd hx
end Go.Proofs.YtejjidggnnhgjaaDoor.HImS2
