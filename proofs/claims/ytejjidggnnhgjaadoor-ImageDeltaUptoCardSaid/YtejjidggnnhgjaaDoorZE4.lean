/- Texts of this seat laid together, what the statement needs of them: PImgx6, HImK, HImKe, HImEr, HImSe, HImEe, HImT, HImKd, HImLe, HOpen. -/
import Derived.Test.YtejjidggnnhgjaaDoorZE3
import Derived.SizedLaws
import Derived.ChangeSlices
import Derived.Deep.Slices
namespace Go.Proofs.YtejjidggnnhgjaaDoor.PImg
open Go.RowKit Go.Proofs.YtejjidggnnhgjaaDoor.HBase Go.Proofs.YtejjidggnnhgjaaDoor.HBlob Go.Proofs.YtejjidggnnhgjaaDoor.HSum Go.Proofs.YtejjidggnnhgjaaDoor.HUv Go.Proofs.YtejjidggnnhgjaaDoorW.PrintWords Go.Proofs.YtejjidggnnhgjaaDoorW.PrintLast Go.Proofs.YtejjidggnnhgjaaDoorW.PrintMore
attribute [local go_sem] max2_int min2_int max_two min_two max_three min_three max_four min_four   -- for this text's walks alone
set_option linter.unusedVariables false
set_option linter.unusedSimpArgs false
/-! ### strataref12_deltaMay: function 49 -/
mutual
def strataref12_deltaMay.j0 : Nat → Bool → Int → Int → Int → List (S58) → Int → List (S60) → Option (Bool)
  | 0, _, _, _, _, _, _, _ => none
  | k + 1, x34, x122000, x122001, x122002, x122003, x122004, x122005 => if x34 = true then (some false) else (strataref12_deltaMay.l0 k 0 x122000 x122001 x122002 x122003 x122004 x122005)
def strataref12_deltaMay.l0 : Nat → Int → Int → Int → Int → List (S58) → Int → List (S60) → Option (Bool)
  | 0, _, _, _, _, _, _, _ => none
  | k + 1, x3, x122000, x122001, x122002, x122003, x122004, x122005 => if x3 < (x122005.length : Int) then (if 0 ≤ x3 then (if ((rd_T60 x122005 x3).f0) < 1 then (strataref12_deltaMay.j2 k x3 true x122000 x122001 x122002 x122003 x122004 x122005 ((rd_T60 x122005 x3).f0) ((rd_T60 x122005 x3).f1) ((rd_T60 x122005 x3).f2)) else (if ((rd_T60 x122005 x3).f1) ≤ ((rd_T60 x122005 x3).f0) then (strataref12_deltaMay.j2 k x3 true x122000 x122001 x122002 x122003 x122004 x122005 ((rd_T60 x122005 x3).f0) ((rd_T60 x122005 x3).f1) ((rd_T60 x122005 x3).f2)) else (if ((rd_T60 x122005 x3).f1) > 4611686018427387903 then (strataref12_deltaMay.j2 k x3 true x122000 x122001 x122002 x122003 x122004 x122005 ((rd_T60 x122005 x3).f0) ((rd_T60 x122005 x3).f1) ((rd_T60 x122005 x3).f2)) else ((strataref12_key.f ((rd_T60 x122005 x3).f2)).bind fun t124 => (strataref12_deltaMay.j2 k x3 (!t124) x122000 x122001 x122002 x122003 x122004 x122005 ((rd_T60 x122005 x3).f0) ((rd_T60 x122005 x3).f1) ((rd_T60 x122005 x3).f2)))))) else (none)) else (some true)
def strataref12_deltaMay.j2 : Nat → Int → Bool → Int → Int → Int → List (S58) → Int → List (S60) → Int → Int → ByteArray → Option (Bool)
  | 0, _, _, _, _, _, _, _, _, _, _, _ => none
  | k + 1, x3, x67, x122000, x122001, x122002, x122003, x122004, x122005, x124000, x124001, x124002 => if x67 = true then (some false) else (if x3 > 0 then (if 0 ≤ (wrap64 (x3 - 1)) then (if (wrap64 (x3 - 1)) < (x122005.length : Int) then ((strataref12_ahead.f ((rd_T60 x122005 (wrap64 (x3 - 1))).f0) ((rd_T60 x122005 (wrap64 (x3 - 1))).f2) x124000 x124002).bind fun t127 => (if t127 = true then (strataref12_deltaMay.l0 k (wrap64 (x3 + 1)) x122000 x122001 x122002 x122003 x122004 x122005) else (some false))) else (none)) else (none)) else (strataref12_deltaMay.l0 k (wrap64 (x3 + 1)) x122000 x122001 x122002 x122003 x122004 x122005))
end
def strataref12_deltaMay.f (k : Nat) (a0_0 : Int) (a0_1 : Int) (a0_2 : Int) (l0_3 : List (S58)) (a0_4 : Int) (l0_5 : List (S60)) : Option (Bool) := if a0_0 < 1 then (strataref12_deltaMay.j0 k true a0_0 a0_1 a0_2 l0_3 a0_4 l0_5) else (if a0_0 > 99999999 then (strataref12_deltaMay.j0 k true a0_0 a0_1 a0_2 l0_3 a0_4 l0_5) else (if a0_4 < 1 then (strataref12_deltaMay.j0 k true a0_0 a0_1 a0_2 l0_3 a0_4 l0_5) else (if a0_4 > 99999999 then (strataref12_deltaMay.j0 k true a0_0 a0_1 a0_2 l0_3 a0_4 l0_5) else (if (l0_5.length : Int) < 1 then (strataref12_deltaMay.j0 k true a0_0 a0_1 a0_2 l0_3 a0_4 l0_5) else (strataref12_deltaMay.j0 k (decide ((l0_5.length : Int) > 65536)) a0_0 a0_1 a0_2 l0_3 a0_4 l0_5)))))
set_option maxHeartbeats 8000000 in
set_option maxRecDepth 100000 in
theorem strataref12_deltaMay.calls (k : Nat) (a0_0 : Int) (a0_1 : Int) (a0_2 : Int) (A0_3 : Option Addr) (c0_3 : Nat) (l0_3 : List (S58)) (a0_4 : Int) (A0_5 : Option Addr) (c0_5 : Nat) (l0_5 : List (S60)) (r : Bool) (w : World) (hr0_3 : Kd.C k58 w A0_3 l0_3.length l0_3) (hc0_3 : l0_3.length ≤ c0_3) (hr0_5 : Kd.C k60 w A0_5 l0_5.length l0_5) (hc0_5 : l0_5.length ≤ c0_5) (h : strataref12_deltaMay.f k a0_0 a0_1 a0_2 l0_3 a0_4 l0_5 = some r) :
    Calls Tryd.prog 49 #[.agg #[.int .i64 a0_0, .int .u64 a0_1, .int .u64 a0_2, .slice A0_3 l0_3.length c0_3, .int .i64 a0_4, .slice A0_5 l0_5.length c0_5]] w fun e w' => e = .returned (.bool r) ∧ Below w.heap.size w w' := by
  have hu46 := Tryd.underlying46
  have hu60 := Tryd.underlying60
  have HR0_3 := Aside0.mk hr0_3
  have HC0_3 := Aside0.mk hc0_3
  clear hr0_3 hc0_3
  have HR0_5 := Aside0.mk hr0_5
  have HC0_5 := Aside0.mk hc0_5
  clear hr0_5 hc0_5
  have HB := Aside0.mk (Below.refl w.heap.size w)
  have H : (if a0_0 < 1 then (strataref12_deltaMay.j0 k true a0_0 a0_1 a0_2 l0_3 a0_4 l0_5) else (if a0_0 > 99999999 then (strataref12_deltaMay.j0 k true a0_0 a0_1 a0_2 l0_3 a0_4 l0_5) else (if a0_4 < 1 then (strataref12_deltaMay.j0 k true a0_0 a0_1 a0_2 l0_3 a0_4 l0_5) else (if a0_4 > 99999999 then (strataref12_deltaMay.j0 k true a0_0 a0_1 a0_2 l0_3 a0_4 l0_5) else (if (l0_5.length : Int) < 1 then (strataref12_deltaMay.j0 k true a0_0 a0_1 a0_2 l0_3 a0_4 l0_5) else (strataref12_deltaMay.j0 k (decide ((l0_5.length : Int) > 65536)) a0_0 a0_1 a0_2 l0_3 a0_4 l0_5)))))) = some r := h
  clear h
  have HC2 := Aside0.mk H
  clear H
  go_enter Tryd.func49, Tryd.ntmps49
  go_upto_region 1 with (first | ((with_reducible refine gate_dst (N := 1) rfl ?_); (try (refine gate_guard (by rfl) ?_; dsimp only)); refine box_event ?hg (N := 1) ?hd (cs := #[.int .i64 a0_0, .int .u64 a0_1, .int .u64 a0_2, .slice A0_3 l0_3.length c0_3, .int .i64 a0_4, .slice A0_5 l0_5.length c0_5]) (t := 46) ?hr ?_; (case hd => rfl); (case hg => rfl); (case hr => first | (go_simp; done) | (go_simp; rfl)); intro gb121 hg w3 hbox hb; have n0_ := Aside0.mk (below_step (by repeat (first | (with_reducible first | exact HB.out | apply below_alloc | apply pw_below_drewN | apply below_drew1) | exact HB.out)) hb); have n1_ := Aside0.mk (hbox); have n2_ := Aside0.mk ((by rw [hg]; exact (below_size (by repeat (first | (with_reducible first | exact HB.out | apply below_alloc | apply pw_below_drewN | apply below_drew1) | exact HB.out))) : w.heap.size ≤ gb121)); have n3_ := Aside0.mk ((by rw [hg]; exact (below_size (by repeat (first | (with_reducible first | exact HB.out | apply below_alloc | apply pw_below_drewN | apply below_drew1) | exact HB.out))) : w.heap.size ≤ gb121)); clear HB; have HB := n0_; have BK121 := n1_; have GW121 := n2_; have GE121 := n3_; clear n0_ n1_ n2_ n3_; clear hb hbox hg))
  repeat (go_quiet (first | ((with_reducible refine gate_dst (N := 1) rfl ?_); (try (refine gate_guard (by rfl) ?_; dsimp only)); refine box_event ?hg (N := 1) ?hd (cs := #[.int .i64 a0_0, .int .u64 a0_1, .int .u64 a0_2, .slice A0_3 l0_3.length c0_3, .int .i64 a0_4, .slice A0_5 l0_5.length c0_5]) (t := 46) ?hr ?_; (case hd => rfl); (case hg => rfl); (case hr => first | (go_simp; done) | (go_simp; rfl)); intro gb121 hg w3 hbox hb; have n0_ := Aside0.mk (below_step (by repeat (first | (with_reducible first | exact HB.out | apply below_alloc | apply pw_below_drewN | apply below_drew1) | exact HB.out)) hb); have n1_ := Aside0.mk (hbox); have n2_ := Aside0.mk ((by rw [hg]; exact (below_size (by repeat (first | (with_reducible first | exact HB.out | apply below_alloc | apply pw_below_drewN | apply below_drew1) | exact HB.out))) : w.heap.size ≤ gb121)); have n3_ := Aside0.mk ((by rw [hg]; exact (below_size (by repeat (first | (with_reducible first | exact HB.out | apply below_alloc | apply pw_below_drewN | apply below_drew1) | exact HB.out))) : w.heap.size ≤ gb121)); clear HB; have HB := n0_; have BK121 := n1_; have GW121 := n2_; have GE121 := n3_; clear n0_ n1_ n2_ n3_; clear hb hbox hg)); go_upto_region 1 with (first | ((with_reducible refine gate_dst (N := 1) rfl ?_); (try (refine gate_guard (by rfl) ?_; dsimp only)); refine box_event ?hg (N := 1) ?hd (cs := #[.int .i64 a0_0, .int .u64 a0_1, .int .u64 a0_2, .slice A0_3 l0_3.length c0_3, .int .i64 a0_4, .slice A0_5 l0_5.length c0_5]) (t := 46) ?hr ?_; (case hd => rfl); (case hg => rfl); (case hr => first | (go_simp; done) | (go_simp; rfl)); intro gb121 hg w3 hbox hb; have n0_ := Aside0.mk (below_step (by repeat (first | (with_reducible first | exact HB.out | apply below_alloc | apply pw_below_drewN | apply below_drew1) | exact HB.out)) hb); have n1_ := Aside0.mk (hbox); have n2_ := Aside0.mk ((by rw [hg]; exact (below_size (by repeat (first | (with_reducible first | exact HB.out | apply below_alloc | apply pw_below_drewN | apply below_drew1) | exact HB.out))) : w.heap.size ≤ gb121)); have n3_ := Aside0.mk ((by rw [hg]; exact (below_size (by repeat (first | (with_reducible first | exact HB.out | apply below_alloc | apply pw_below_drewN | apply below_drew1) | exact HB.out))) : w.heap.size ≤ gb121)); clear HB; have HB := n0_; have BK121 := n1_; have GW121 := n2_; have GE121 := n3_; clear n0_ n1_ n2_ n3_; clear hb hbox hg)))
  (try simp only [Act.put, List.setIfInBounds_toArray, List.set_cons_zero, List.set_cons_succ])
  go_cut [34] (fun v34 wc => ∃ (kq : Nat) (x34_1 : Bool), v34 = .bool x34_1 ∧ Aside0 (strataref12_deltaMay.j0 kq x34_1 a0_0 a0_1 a0_2 l0_3 a0_4 l0_5 = some r) ∧ Aside0 (kq ≤ k) ∧ Aside0 (wc.heap[gb121]? = some (.cells #[.int .i64 a0_0, .int .u64 a0_1, .int .u64 a0_2, (.slice A0_3 l0_3.length c0_3), .int .i64 a0_4, (.slice A0_5 l0_5.length c0_5)] 46 (0, 0))) ∧ Aside0 (Below w.heap.size w wc))
  case first =>
    have H := HC2.out
    clear HC2
    by_cases c4 : a0_0 < 1
    · rw [if_pos c4] at H
      have c4b0 : decide (a0_0 < 1) = true := decide_eq_true c4
      clear c4
      (first | rw [c4b0] | (simp only [i64_w, i32_w]; rw [c4b0]) | skip)
      have H' := Aside0.mk H
      clear H
      have hcz5_0 : w3.cell? ⟨gb121, 0, none⟩ = some (.int .i64 a0_0) := (blk_cell BK121.out 0).trans rfl
      have hcz5_1 : w3.cell? ⟨gb121, 1, none⟩ = some (.int .u64 a0_1) := (blk_cell BK121.out 1).trans rfl
      have hcz5_2 : w3.cell? ⟨gb121, 2, none⟩ = some (.int .u64 a0_2) := (blk_cell BK121.out 2).trans rfl
      have hcz5_3 : w3.cell? ⟨gb121, 3, none⟩ = some (.slice A0_3 l0_3.length c0_3) := (blk_cell BK121.out 3).trans rfl
      have hcz5_4 : w3.cell? ⟨gb121, 4, none⟩ = some (.int .i64 a0_4) := (blk_cell BK121.out 4).trans rfl
      have hcz5_5 : w3.cell? ⟨gb121, 5, none⟩ = some (.slice A0_5 l0_5.length c0_5) := (blk_cell BK121.out 5).trans rfl
      have hfz5_0 := blk_frozen BK121.out 0
      have hfz5_1 := blk_frozen BK121.out 1
      have hfz5_2 := blk_frozen BK121.out 2
      have hfz5_3 := blk_frozen BK121.out 3
      have hfz5_4 := blk_frozen BK121.out 4
      have hfz5_5 := blk_frozen BK121.out 5
      go_wp2
      repeat (go_quiet (fail); try go_wp2)
      go_meet
      case rel => exact ⟨_, (true), (by first | rfl | (simp; done) | (simp [*]; done)), H', ⟨by first | omega | exact Nat.le_refl _⟩, ⟨by (with_reducible repeat (first | refine blk_drewN ?_ _ | refine blk_drew ?_ | refine blk_alloc ?_ _)); exact BK121.out⟩, ⟨by repeat (first | (with_reducible first | exact HB.out | apply below_alloc | apply pw_below_drewN | apply below_drew1 | refine below_set ?_ GE121.out) | exact HB.out)⟩⟩
    · rw [if_neg c4] at H
      have c4b0 : decide (a0_0 < 1) = false := decide_eq_false c4
      clear c4
      (first | rw [c4b0] | (simp only [i64_w, i32_w]; rw [c4b0]) | skip)
      by_cases c6 : a0_0 > 99999999
      · rw [if_pos c6] at H
        have c6b0 : decide (99999999 < a0_0) = true := decide_eq_true c6
        clear c6
        have H' := Aside0.mk H
        clear H
        have hcz7_0 : w3.cell? ⟨gb121, 0, none⟩ = some (.int .i64 a0_0) := (blk_cell BK121.out 0).trans rfl
        have hcz7_1 : w3.cell? ⟨gb121, 1, none⟩ = some (.int .u64 a0_1) := (blk_cell BK121.out 1).trans rfl
        have hcz7_2 : w3.cell? ⟨gb121, 2, none⟩ = some (.int .u64 a0_2) := (blk_cell BK121.out 2).trans rfl
        have hcz7_3 : w3.cell? ⟨gb121, 3, none⟩ = some (.slice A0_3 l0_3.length c0_3) := (blk_cell BK121.out 3).trans rfl
        have hcz7_4 : w3.cell? ⟨gb121, 4, none⟩ = some (.int .i64 a0_4) := (blk_cell BK121.out 4).trans rfl
        have hcz7_5 : w3.cell? ⟨gb121, 5, none⟩ = some (.slice A0_5 l0_5.length c0_5) := (blk_cell BK121.out 5).trans rfl
        have hfz7_0 := blk_frozen BK121.out 0
        have hfz7_1 := blk_frozen BK121.out 1
        have hfz7_2 := blk_frozen BK121.out 2
        have hfz7_3 := blk_frozen BK121.out 3
        have hfz7_4 := blk_frozen BK121.out 4
        have hfz7_5 := blk_frozen BK121.out 5
        go_wp2
        repeat (go_quiet (fail); try go_wp2)
        go_meet
        case rel => exact ⟨_, (true), (by first | rfl | (simp; done) | (simp [*]; done)), H', ⟨by first | omega | exact Nat.le_refl _⟩, ⟨by (with_reducible repeat (first | refine blk_drewN ?_ _ | refine blk_drew ?_ | refine blk_alloc ?_ _)); exact BK121.out⟩, ⟨by repeat (first | (with_reducible first | exact HB.out | apply below_alloc | apply pw_below_drewN | apply below_drew1 | refine below_set ?_ GE121.out) | exact HB.out)⟩⟩
      · rw [if_neg c6] at H
        have c6b0 : decide (99999999 < a0_0) = false := decide_eq_false c6
        clear c6
        by_cases c8 : a0_4 < 1
        · rw [if_pos c8] at H
          have c8b0 : decide (a0_4 < 1) = true := decide_eq_true c8
          clear c8
          have H' := Aside0.mk H
          clear H
          have hcz9_0 : w3.cell? ⟨gb121, 0, none⟩ = some (.int .i64 a0_0) := (blk_cell BK121.out 0).trans rfl
          have hcz9_1 : w3.cell? ⟨gb121, 1, none⟩ = some (.int .u64 a0_1) := (blk_cell BK121.out 1).trans rfl
          have hcz9_2 : w3.cell? ⟨gb121, 2, none⟩ = some (.int .u64 a0_2) := (blk_cell BK121.out 2).trans rfl
          have hcz9_3 : w3.cell? ⟨gb121, 3, none⟩ = some (.slice A0_3 l0_3.length c0_3) := (blk_cell BK121.out 3).trans rfl
          have hcz9_4 : w3.cell? ⟨gb121, 4, none⟩ = some (.int .i64 a0_4) := (blk_cell BK121.out 4).trans rfl
          have hcz9_5 : w3.cell? ⟨gb121, 5, none⟩ = some (.slice A0_5 l0_5.length c0_5) := (blk_cell BK121.out 5).trans rfl
          have hfz9_0 := blk_frozen BK121.out 0
          have hfz9_1 := blk_frozen BK121.out 1
          have hfz9_2 := blk_frozen BK121.out 2
          have hfz9_3 := blk_frozen BK121.out 3
          have hfz9_4 := blk_frozen BK121.out 4
          have hfz9_5 := blk_frozen BK121.out 5
          go_wp2
          repeat (go_quiet (fail); try go_wp2)
          go_meet
          case rel => exact ⟨_, (true), (by first | rfl | (simp; done) | (simp [*]; done)), H', ⟨by first | omega | exact Nat.le_refl _⟩, ⟨by (with_reducible repeat (first | refine blk_drewN ?_ _ | refine blk_drew ?_ | refine blk_alloc ?_ _)); exact BK121.out⟩, ⟨by repeat (first | (with_reducible first | exact HB.out | apply below_alloc | apply pw_below_drewN | apply below_drew1 | refine below_set ?_ GE121.out) | exact HB.out)⟩⟩
        · rw [if_neg c8] at H
          have c8b0 : decide (a0_4 < 1) = false := decide_eq_false c8
          clear c8
          by_cases c10 : a0_4 > 99999999
          · rw [if_pos c10] at H
            have c10b0 : decide (99999999 < a0_4) = true := decide_eq_true c10
            clear c10
            have H' := Aside0.mk H
            clear H
            have hcz11_0 : w3.cell? ⟨gb121, 0, none⟩ = some (.int .i64 a0_0) := (blk_cell BK121.out 0).trans rfl
            have hcz11_1 : w3.cell? ⟨gb121, 1, none⟩ = some (.int .u64 a0_1) := (blk_cell BK121.out 1).trans rfl
            have hcz11_2 : w3.cell? ⟨gb121, 2, none⟩ = some (.int .u64 a0_2) := (blk_cell BK121.out 2).trans rfl
            have hcz11_3 : w3.cell? ⟨gb121, 3, none⟩ = some (.slice A0_3 l0_3.length c0_3) := (blk_cell BK121.out 3).trans rfl
            have hcz11_4 : w3.cell? ⟨gb121, 4, none⟩ = some (.int .i64 a0_4) := (blk_cell BK121.out 4).trans rfl
            have hcz11_5 : w3.cell? ⟨gb121, 5, none⟩ = some (.slice A0_5 l0_5.length c0_5) := (blk_cell BK121.out 5).trans rfl
            have hfz11_0 := blk_frozen BK121.out 0
            have hfz11_1 := blk_frozen BK121.out 1
            have hfz11_2 := blk_frozen BK121.out 2
            have hfz11_3 := blk_frozen BK121.out 3
            have hfz11_4 := blk_frozen BK121.out 4
            have hfz11_5 := blk_frozen BK121.out 5
            go_wp2
            repeat (go_quiet (fail); try go_wp2)
            go_meet
            case rel => exact ⟨_, (true), (by first | rfl | (simp; done) | (simp [*]; done)), H', ⟨by first | omega | exact Nat.le_refl _⟩, ⟨by (with_reducible repeat (first | refine blk_drewN ?_ _ | refine blk_drew ?_ | refine blk_alloc ?_ _)); exact BK121.out⟩, ⟨by repeat (first | (with_reducible first | exact HB.out | apply below_alloc | apply pw_below_drewN | apply below_drew1 | refine below_set ?_ GE121.out) | exact HB.out)⟩⟩
          · rw [if_neg c10] at H
            have c10b0 : decide (99999999 < a0_4) = false := decide_eq_false c10
            clear c10
            by_cases c12 : (l0_5.length : Int) < 1
            · rw [if_pos c12] at H
              have c12b0 : decide ((l0_5.length : Int) < 1) = true := decide_eq_true c12
              have c12b1 : decide (l0_5.length < 1) = true := decide_eq_true (by omega)
              clear c12
              have H' := Aside0.mk H
              clear H
              have hcz13_0 : w3.cell? ⟨gb121, 0, none⟩ = some (.int .i64 a0_0) := (blk_cell BK121.out 0).trans rfl
              have hcz13_1 : w3.cell? ⟨gb121, 1, none⟩ = some (.int .u64 a0_1) := (blk_cell BK121.out 1).trans rfl
              have hcz13_2 : w3.cell? ⟨gb121, 2, none⟩ = some (.int .u64 a0_2) := (blk_cell BK121.out 2).trans rfl
              have hcz13_3 : w3.cell? ⟨gb121, 3, none⟩ = some (.slice A0_3 l0_3.length c0_3) := (blk_cell BK121.out 3).trans rfl
              have hcz13_4 : w3.cell? ⟨gb121, 4, none⟩ = some (.int .i64 a0_4) := (blk_cell BK121.out 4).trans rfl
              have hcz13_5 : w3.cell? ⟨gb121, 5, none⟩ = some (.slice A0_5 l0_5.length c0_5) := (blk_cell BK121.out 5).trans rfl
              have hfz13_0 := blk_frozen BK121.out 0
              have hfz13_1 := blk_frozen BK121.out 1
              have hfz13_2 := blk_frozen BK121.out 2
              have hfz13_3 := blk_frozen BK121.out 3
              have hfz13_4 := blk_frozen BK121.out 4
              have hfz13_5 := blk_frozen BK121.out 5
              go_wp2
              repeat (go_quiet (fail); try go_wp2)
              go_meet
              case rel => exact ⟨_, (true), (by first | rfl | (simp; done) | (simp [*]; done)), H', ⟨by first | omega | exact Nat.le_refl _⟩, ⟨by (with_reducible repeat (first | refine blk_drewN ?_ _ | refine blk_drew ?_ | refine blk_alloc ?_ _)); exact BK121.out⟩, ⟨by repeat (first | (with_reducible first | exact HB.out | apply below_alloc | apply pw_below_drewN | apply below_drew1 | refine below_set ?_ GE121.out) | exact HB.out)⟩⟩
            · rw [if_neg c12] at H
              have c12b0 : decide ((l0_5.length : Int) < 1) = false := decide_eq_false c12
              have c12b1 : decide (l0_5.length < 1) = false := decide_eq_false (by omega)
              clear c12
              have H' := Aside0.mk H
              clear H
              have hcz14_0 : w3.cell? ⟨gb121, 0, none⟩ = some (.int .i64 a0_0) := (blk_cell BK121.out 0).trans rfl
              have hcz14_1 : w3.cell? ⟨gb121, 1, none⟩ = some (.int .u64 a0_1) := (blk_cell BK121.out 1).trans rfl
              have hcz14_2 : w3.cell? ⟨gb121, 2, none⟩ = some (.int .u64 a0_2) := (blk_cell BK121.out 2).trans rfl
              have hcz14_3 : w3.cell? ⟨gb121, 3, none⟩ = some (.slice A0_3 l0_3.length c0_3) := (blk_cell BK121.out 3).trans rfl
              have hcz14_4 : w3.cell? ⟨gb121, 4, none⟩ = some (.int .i64 a0_4) := (blk_cell BK121.out 4).trans rfl
              have hcz14_5 : w3.cell? ⟨gb121, 5, none⟩ = some (.slice A0_5 l0_5.length c0_5) := (blk_cell BK121.out 5).trans rfl
              have hfz14_0 := blk_frozen BK121.out 0
              have hfz14_1 := blk_frozen BK121.out 1
              have hfz14_2 := blk_frozen BK121.out 2
              have hfz14_3 := blk_frozen BK121.out 3
              have hfz14_4 := blk_frozen BK121.out 4
              have hfz14_5 := blk_frozen BK121.out 5
              go_wp2
              repeat (go_quiet (fail); try go_wp2)
              go_meet
              case rel => exact ⟨_, (decide ((l0_5.length : Int) > 65536)), (by first | rfl | (simp; done) | (simp [*]; done)), H', ⟨by first | omega | exact Nat.le_refl _⟩, ⟨by (with_reducible repeat (first | refine blk_drewN ?_ _ | refine blk_drew ?_ | refine blk_alloc ?_ _)); exact BK121.out⟩, ⟨by repeat (first | (with_reducible first | exact HB.out | apply below_alloc | apply pw_below_drewN | apply below_drew1 | refine below_set ?_ GE121.out) | exact HB.out)⟩⟩
  case rest =>
    clear HC2
    try clear c1
    try clear p2
    try clear c4
    try clear c4b0
    try clear c6
    try clear c6b0
    try clear c8
    try clear c8b0
    try clear c10
    try clear c10b0
    try clear c12
    try clear c12b0
    try clear c12b1
    try clear hcz11_0
    try clear hcz11_1
    try clear hcz11_2
    try clear hcz11_3
    try clear hcz11_4
    try clear hcz11_5
    try clear hcz13_0
    try clear hcz13_1
    try clear hcz13_2
    try clear hcz13_3
    try clear hcz13_4
    try clear hcz13_5
    try clear hcz14_0
    try clear hcz14_1
    try clear hcz14_2
    try clear hcz14_3
    try clear hcz14_4
    try clear hcz14_5
    try clear hcz5_0
    try clear hcz5_1
    try clear hcz5_2
    try clear hcz5_3
    try clear hcz5_4
    try clear hcz5_5
    try clear hcz7_0
    try clear hcz7_1
    try clear hcz7_2
    try clear hcz7_3
    try clear hcz7_4
    try clear hcz7_5
    try clear hcz9_0
    try clear hcz9_1
    try clear hcz9_2
    try clear hcz9_3
    try clear hcz9_4
    try clear hcz9_5
    try clear hfz11_0
    try clear hfz11_1
    try clear hfz11_2
    try clear hfz11_3
    try clear hfz11_4
    try clear hfz11_5
    try clear hfz13_0
    try clear hfz13_1
    try clear hfz13_2
    try clear hfz13_3
    try clear hfz13_4
    try clear hfz13_5
    try clear hfz14_0
    try clear hfz14_1
    try clear hfz14_2
    try clear hfz14_3
    try clear hfz14_4
    try clear hfz14_5
    try clear hfz5_0
    try clear hfz5_1
    try clear hfz5_2
    try clear hfz5_3
    try clear hfz5_4
    try clear hfz5_5
    try clear hfz7_0
    try clear hfz7_1
    try clear hfz7_2
    try clear hfz7_3
    try clear hfz7_4
    try clear hfz7_5
    try clear hfz9_0
    try clear hfz9_1
    try clear hfz9_2
    try clear hfz9_3
    try clear hfz9_4
    try clear hfz9_5
    obtain ⟨kq, x34_1, rfl, HA, HJ1, BK121, HB⟩ := hcut
    cases kq with
    | zero => exact absurd HA.out (by simp [strataref12_deltaMay.j0])
    | succ kj1 =>
      have H := HA.out
      clear HA
      simp only [strataref12_deltaMay.j0] at H
      by_cases c15 : x34_1 = true
      · subst c15
        have H1 : (some false) = some r := by rw [if_pos rfl] at H; exact H
        clear H
        have H := H1
        clear H1
        obtain rfl := Option.some.inj H
        go_wp2
        repeat (go_quiet (fail); try go_wp2)
        go_ret
        exact ⟨by first | rfl | (simp [errW_none, errW_some] <;> rfl) | (simp [*, errW_none, errW_some] <;> rfl), by repeat (first | (with_reducible first | exact HB.out | apply below_alloc | apply pw_below_drewN | apply below_drew1 | refine below_set ?_ GE121.out) | exact HB.out)⟩
      · replace c15 := Bool.eq_false_iff.mpr c15
        subst c15
        have H1 : (strataref12_deltaMay.l0 kj1 0 a0_0 a0_1 a0_2 l0_3 a0_4 l0_5) = some r := by rw [if_neg (show ¬ (false = true) by decide)] at H; exact H
        clear H
        have H := H1
        clear H1
        have H' := Aside0.mk H
        clear H
        go_wp2
        repeat (go_quiet (fail); try go_wp2)
        go_loopg [3] kj1 (fun kq v3 w' => ∃ (x3_2 : Int), v3 = .int .i64 x3_2 ∧ Aside0 (strataref12_deltaMay.l0 kq x3_2 a0_0 a0_1 a0_2 l0_3 a0_4 l0_5 = some r) ∧ Aside0 (kq ≤ kj1) ∧ Aside0 (w'.heap[gb121]? = some (.cells #[.int .i64 a0_0, .int .u64 a0_1, .int .u64 a0_2, (.slice A0_3 l0_3.length c0_3), .int .i64 a0_4, (.slice A0_5 l0_5.length c0_5)] 46 (0, 0))) ∧ Aside0 (Below w.heap.size w w'))
        case atStart => exact ⟨(0), (by first | rfl | (simp; done) | (simp [*]; done)), H', ⟨Nat.le_refl _⟩, ⟨by (with_reducible repeat (first | refine blk_drewN ?_ _ | refine blk_drew ?_ | refine blk_alloc ?_ _)); exact BK121.out⟩, ⟨by repeat (first | (with_reducible first | exact HB.out | apply below_alloc | apply pw_below_drewN | apply below_drew1 | refine below_set ?_ GE121.out) | exact HB.out)⟩⟩
        case round =>
          clear H'
          try clear c1
          try clear p2
          try clear c4
          try clear c4b0
          try clear c6
          try clear c6b0
          try clear c8
          try clear c8b0
          try clear c10
          try clear c10b0
          try clear c12
          try clear c12b0
          try clear c12b1
          try clear c15
          try clear hcz11_0
          try clear hcz11_1
          try clear hcz11_2
          try clear hcz11_3
          try clear hcz11_4
          try clear hcz11_5
          try clear hcz13_0
          try clear hcz13_1
          try clear hcz13_2
          try clear hcz13_3
          try clear hcz13_4
          try clear hcz13_5
          try clear hcz14_0
          try clear hcz14_1
          try clear hcz14_2
          try clear hcz14_3
          try clear hcz14_4
          try clear hcz14_5
          try clear hcz5_0
          try clear hcz5_1
          try clear hcz5_2
          try clear hcz5_3
          try clear hcz5_4
          try clear hcz5_5
          try clear hcz7_0
          try clear hcz7_1
          try clear hcz7_2
          try clear hcz7_3
          try clear hcz7_4
          try clear hcz7_5
          try clear hcz9_0
          try clear hcz9_1
          try clear hcz9_2
          try clear hcz9_3
          try clear hcz9_4
          try clear hcz9_5
          try clear hfz11_0
          try clear hfz11_1
          try clear hfz11_2
          try clear hfz11_3
          try clear hfz11_4
          try clear hfz11_5
          try clear hfz13_0
          try clear hfz13_1
          try clear hfz13_2
          try clear hfz13_3
          try clear hfz13_4
          try clear hfz13_5
          try clear hfz14_0
          try clear hfz14_1
          try clear hfz14_2
          try clear hfz14_3
          try clear hfz14_4
          try clear hfz14_5
          try clear hfz5_0
          try clear hfz5_1
          try clear hfz5_2
          try clear hfz5_3
          try clear hfz5_4
          try clear hfz5_5
          try clear hfz7_0
          try clear hfz7_1
          try clear hfz7_2
          try clear hfz7_3
          try clear hfz7_4
          try clear hfz7_5
          try clear hfz9_0
          try clear hfz9_1
          try clear hfz9_2
          try clear hfz9_3
          try clear hfz9_4
          try clear hfz9_5
          try clear p2
          obtain ⟨x3_2, rfl, HA, HK2, BK121, HB⟩ := hrel
          cases gk with
          | zero => exact absurd HA.out (by simp [strataref12_deltaMay.l0])
          | succ k2 =>
            have H := HA.out
            clear HA
            simp only [strataref12_deltaMay.l0] at H
            by_cases c16 : x3_2 < (l0_5.length : Int)
            · rw [if_pos c16] at H
              have c16b0 : decide (x3_2 < (l0_5.length : Int)) = true := decide_eq_true c16
              clear c16
              by_cases c17 : 0 ≤ x3_2
              · rw [if_pos c17] at H
                have c17b0 : decide (0 ≤ x3_2) = true := decide_eq_true c17
                clear c17
                have HC18 := Aside0.mk H
                clear H
                have hcz19_0 : wr.cell? ⟨gb121, 0, none⟩ = some (.int .i64 a0_0) := (blk_cell BK121.out 0).trans rfl
                have hcz19_1 : wr.cell? ⟨gb121, 1, none⟩ = some (.int .u64 a0_1) := (blk_cell BK121.out 1).trans rfl
                have hcz19_2 : wr.cell? ⟨gb121, 2, none⟩ = some (.int .u64 a0_2) := (blk_cell BK121.out 2).trans rfl
                have hcz19_3 : wr.cell? ⟨gb121, 3, none⟩ = some (.slice A0_3 l0_3.length c0_3) := (blk_cell BK121.out 3).trans rfl
                have hcz19_4 : wr.cell? ⟨gb121, 4, none⟩ = some (.int .i64 a0_4) := (blk_cell BK121.out 4).trans rfl
                have hcz19_5 : wr.cell? ⟨gb121, 5, none⟩ = some (.slice A0_5 l0_5.length c0_5) := (blk_cell BK121.out 5).trans rfl
                have hfz19_0 := blk_frozen BK121.out 0
                have hfz19_1 := blk_frozen BK121.out 1
                have hfz19_2 := blk_frozen BK121.out 2
                have hfz19_3 := blk_frozen BK121.out 3
                have hfz19_4 := blk_frozen BK121.out 4
                have hfz19_5 := blk_frozen BK121.out 5
                have p122 : 0 ≤ (x3_2 : Int) := of_decide_eq_true (by first | (with_reducible assumption) | assumption)
                have q122 : x3_2 < (l0_5.length : Int) := of_decide_eq_true (by first | (with_reducible assumption) | assumption)
                obtain ⟨ad122, e122, hx122_0, hx122_1, hx122_2⟩ := at_T60 HR0_5.out x3_2 p122 q122
                cases e122
                replace hx122_0 := (HB.out.cell (World.block_lt_of_cell? w _ hx122_0)).trans hx122_0
                replace hx122_1 := (HB.out.cell (World.block_lt_of_cell? w _ hx122_1)).trans hx122_1
                replace hx122_2 := (HB.out.cell (World.block_lt_of_cell? w _ hx122_2)).trans hx122_2
                replace p122 := eq_true p122
                replace q122 := eq_true q122
                go_upto_region 7 with (first | ((with_reducible refine gate_dst (N := 4) rfl ?_); (try (refine gate_guard (by rfl) ?_; dsimp only)); refine box_event ?hg (N := 4) ?hd (cs := #[.int .u64 0, .int .u64 0, .string (⟨#[]⟩ : ByteArray)]) (t := 60) ?hr ?_; (case hd => rfl); (case hg => rfl); (case hr => first | (go_simp; done) | (go_simp; rfl)); intro gb123 hg w20 hbox hb; have n0_ := Aside0.mk (blk_below (g := gb121) (o := .cells #[.int .i64 a0_0, .int .u64 a0_1, .int .u64 a0_2, .slice A0_3 l0_3.length c0_3, .int .i64 a0_4, .slice (some ad122) l0_5.length c0_5] 46 (0, 0)) (by (with_reducible repeat (first | refine blk_drewN ?_ _ | refine blk_drew ?_ | refine blk_alloc ?_ _)); exact BK121.out) hb); have n1_ := Aside0.mk (below_step (by repeat (first | (with_reducible first | exact HB.out | apply below_alloc | apply pw_below_drewN | apply below_drew1 | refine below_set ?_ GE121.out) | exact HB.out)) hb); have n2_ := Aside0.mk (hbox); have n3_ := Aside0.mk ((by rw [hg]; exact (below_size (by repeat (first | (with_reducible first | exact HB.out | apply below_alloc | apply pw_below_drewN | apply below_drew1 | refine below_set ?_ GE121.out) | exact HB.out))) : w.heap.size ≤ gb123)); have n4_ := Aside0.mk ((by rw [hg]; exact (below_size (by repeat (first | (with_reducible first | exact HB.out | apply below_alloc | apply pw_below_drewN | apply below_drew1 | refine below_set ?_ GE121.out) | exact HB.out))) : w.heap.size ≤ gb123)); have n5_ := Aside0.mk ((by rw [hg]; exact Nat.ne_of_lt (blk_lt (g := gb121) (o := .cells #[.int .i64 a0_0, .int .u64 a0_1, .int .u64 a0_2, .slice A0_3 l0_3.length c0_3, .int .i64 a0_4, .slice (some ad122) l0_5.length c0_5] 46 (0, 0)) (by (with_reducible repeat (first | refine blk_drewN ?_ _ | refine blk_drew ?_ | refine blk_alloc ?_ _)); exact BK121.out)) : gb121 ≠ gb123)); have n6_ := Aside0.mk ((by rw [hg]; exact Nat.ne_of_gt (blk_lt (g := gb121) (o := .cells #[.int .i64 a0_0, .int .u64 a0_1, .int .u64 a0_2, .slice A0_3 l0_3.length c0_3, .int .i64 a0_4, .slice (some ad122) l0_5.length c0_5] 46 (0, 0)) (by (with_reducible repeat (first | refine blk_drewN ?_ _ | refine blk_drew ?_ | refine blk_alloc ?_ _)); exact BK121.out)) : gb123 ≠ gb121)); clear BK121; clear HB; have BK121 := n0_; have HB := n1_; have BK123 := n2_; have GW123 := n3_; have GE123 := n4_; have NB121_123 := n5_; have NB123_121 := n6_; clear n0_ n1_ n2_ n3_ n4_ n5_ n6_; clear hb hbox hg; have hnb21 := NB123_121.out; have hnc21 := NB121_123.out; have hcz22_0 : w20.cell? ⟨gb123, 0, none⟩ = some (.int .u64 0) := (blk_cell BK123.out 0).trans rfl; have hcz22_1 : w20.cell? ⟨gb123, 1, none⟩ = some (.int .u64 0) := (blk_cell BK123.out 1).trans rfl; have hcz22_2 : w20.cell? ⟨gb123, 2, none⟩ = some (.string (⟨#[]⟩ : ByteArray)) := (blk_cell BK123.out 2).trans rfl; have hfz22_0 := blk_frozen BK123.out 0; have hfz22_1 := blk_frozen BK123.out 1; have hfz22_2 := blk_frozen BK123.out 2))
                repeat (go_quiet (first | ((with_reducible refine gate_dst (N := 4) rfl ?_); (try (refine gate_guard (by rfl) ?_; dsimp only)); refine box_event ?hg (N := 4) ?hd (cs := #[.int .u64 0, .int .u64 0, .string (⟨#[]⟩ : ByteArray)]) (t := 60) ?hr ?_; (case hd => rfl); (case hg => rfl); (case hr => first | (go_simp; done) | (go_simp; rfl)); intro gb123 hg w20 hbox hb; have n0_ := Aside0.mk (blk_below (g := gb121) (o := .cells #[.int .i64 a0_0, .int .u64 a0_1, .int .u64 a0_2, .slice A0_3 l0_3.length c0_3, .int .i64 a0_4, .slice (some ad122) l0_5.length c0_5] 46 (0, 0)) (by (with_reducible repeat (first | refine blk_drewN ?_ _ | refine blk_drew ?_ | refine blk_alloc ?_ _)); exact BK121.out) hb); have n1_ := Aside0.mk (below_step (by repeat (first | (with_reducible first | exact HB.out | apply below_alloc | apply pw_below_drewN | apply below_drew1 | refine below_set ?_ GE121.out) | exact HB.out)) hb); have n2_ := Aside0.mk (hbox); have n3_ := Aside0.mk ((by rw [hg]; exact (below_size (by repeat (first | (with_reducible first | exact HB.out | apply below_alloc | apply pw_below_drewN | apply below_drew1 | refine below_set ?_ GE121.out) | exact HB.out))) : w.heap.size ≤ gb123)); have n4_ := Aside0.mk ((by rw [hg]; exact (below_size (by repeat (first | (with_reducible first | exact HB.out | apply below_alloc | apply pw_below_drewN | apply below_drew1 | refine below_set ?_ GE121.out) | exact HB.out))) : w.heap.size ≤ gb123)); have n5_ := Aside0.mk ((by rw [hg]; exact Nat.ne_of_lt (blk_lt (g := gb121) (o := .cells #[.int .i64 a0_0, .int .u64 a0_1, .int .u64 a0_2, .slice A0_3 l0_3.length c0_3, .int .i64 a0_4, .slice (some ad122) l0_5.length c0_5] 46 (0, 0)) (by (with_reducible repeat (first | refine blk_drewN ?_ _ | refine blk_drew ?_ | refine blk_alloc ?_ _)); exact BK121.out)) : gb121 ≠ gb123)); have n6_ := Aside0.mk ((by rw [hg]; exact Nat.ne_of_gt (blk_lt (g := gb121) (o := .cells #[.int .i64 a0_0, .int .u64 a0_1, .int .u64 a0_2, .slice A0_3 l0_3.length c0_3, .int .i64 a0_4, .slice (some ad122) l0_5.length c0_5] 46 (0, 0)) (by (with_reducible repeat (first | refine blk_drewN ?_ _ | refine blk_drew ?_ | refine blk_alloc ?_ _)); exact BK121.out)) : gb123 ≠ gb121)); clear BK121; clear HB; have BK121 := n0_; have HB := n1_; have BK123 := n2_; have GW123 := n3_; have GE123 := n4_; have NB121_123 := n5_; have NB123_121 := n6_; clear n0_ n1_ n2_ n3_ n4_ n5_ n6_; clear hb hbox hg; have hnb21 := NB123_121.out; have hnc21 := NB121_123.out; have hcz22_0 : w20.cell? ⟨gb123, 0, none⟩ = some (.int .u64 0) := (blk_cell BK123.out 0).trans rfl; have hcz22_1 : w20.cell? ⟨gb123, 1, none⟩ = some (.int .u64 0) := (blk_cell BK123.out 1).trans rfl; have hcz22_2 : w20.cell? ⟨gb123, 2, none⟩ = some (.string (⟨#[]⟩ : ByteArray)) := (blk_cell BK123.out 2).trans rfl; have hfz22_0 := blk_frozen BK123.out 0; have hfz22_1 := blk_frozen BK123.out 1; have hfz22_2 := blk_frozen BK123.out 2)); go_upto_region 7 with (first | ((with_reducible refine gate_dst (N := 4) rfl ?_); (try (refine gate_guard (by rfl) ?_; dsimp only)); refine box_event ?hg (N := 4) ?hd (cs := #[.int .u64 0, .int .u64 0, .string (⟨#[]⟩ : ByteArray)]) (t := 60) ?hr ?_; (case hd => rfl); (case hg => rfl); (case hr => first | (go_simp; done) | (go_simp; rfl)); intro gb123 hg w20 hbox hb; have n0_ := Aside0.mk (blk_below (g := gb121) (o := .cells #[.int .i64 a0_0, .int .u64 a0_1, .int .u64 a0_2, .slice A0_3 l0_3.length c0_3, .int .i64 a0_4, .slice (some ad122) l0_5.length c0_5] 46 (0, 0)) (by (with_reducible repeat (first | refine blk_drewN ?_ _ | refine blk_drew ?_ | refine blk_alloc ?_ _)); exact BK121.out) hb); have n1_ := Aside0.mk (below_step (by repeat (first | (with_reducible first | exact HB.out | apply below_alloc | apply pw_below_drewN | apply below_drew1 | refine below_set ?_ GE121.out) | exact HB.out)) hb); have n2_ := Aside0.mk (hbox); have n3_ := Aside0.mk ((by rw [hg]; exact (below_size (by repeat (first | (with_reducible first | exact HB.out | apply below_alloc | apply pw_below_drewN | apply below_drew1 | refine below_set ?_ GE121.out) | exact HB.out))) : w.heap.size ≤ gb123)); have n4_ := Aside0.mk ((by rw [hg]; exact (below_size (by repeat (first | (with_reducible first | exact HB.out | apply below_alloc | apply pw_below_drewN | apply below_drew1 | refine below_set ?_ GE121.out) | exact HB.out))) : w.heap.size ≤ gb123)); have n5_ := Aside0.mk ((by rw [hg]; exact Nat.ne_of_lt (blk_lt (g := gb121) (o := .cells #[.int .i64 a0_0, .int .u64 a0_1, .int .u64 a0_2, .slice A0_3 l0_3.length c0_3, .int .i64 a0_4, .slice (some ad122) l0_5.length c0_5] 46 (0, 0)) (by (with_reducible repeat (first | refine blk_drewN ?_ _ | refine blk_drew ?_ | refine blk_alloc ?_ _)); exact BK121.out)) : gb121 ≠ gb123)); have n6_ := Aside0.mk ((by rw [hg]; exact Nat.ne_of_gt (blk_lt (g := gb121) (o := .cells #[.int .i64 a0_0, .int .u64 a0_1, .int .u64 a0_2, .slice A0_3 l0_3.length c0_3, .int .i64 a0_4, .slice (some ad122) l0_5.length c0_5] 46 (0, 0)) (by (with_reducible repeat (first | refine blk_drewN ?_ _ | refine blk_drew ?_ | refine blk_alloc ?_ _)); exact BK121.out)) : gb123 ≠ gb121)); clear BK121; clear HB; have BK121 := n0_; have HB := n1_; have BK123 := n2_; have GW123 := n3_; have GE123 := n4_; have NB121_123 := n5_; have NB123_121 := n6_; clear n0_ n1_ n2_ n3_ n4_ n5_ n6_; clear hb hbox hg; have hnb21 := NB123_121.out; have hnc21 := NB121_123.out; have hcz22_0 : w20.cell? ⟨gb123, 0, none⟩ = some (.int .u64 0) := (blk_cell BK123.out 0).trans rfl; have hcz22_1 : w20.cell? ⟨gb123, 1, none⟩ = some (.int .u64 0) := (blk_cell BK123.out 1).trans rfl; have hcz22_2 : w20.cell? ⟨gb123, 2, none⟩ = some (.string (⟨#[]⟩ : ByteArray)) := (blk_cell BK123.out 2).trans rfl; have hfz22_0 := blk_frozen BK123.out 0; have hfz22_1 := blk_frozen BK123.out 1; have hfz22_2 := blk_frozen BK123.out 2)))
                (try simp only [Act.put, List.setIfInBounds_toArray, List.set_cons_zero, List.set_cons_succ])
                go_cut [67] (fun v67 wc => ∃ (kq : Nat) (x67_17 : Bool), v67 = .bool x67_17 ∧ Aside0 (strataref12_deltaMay.j2 kq x3_2 x67_17 a0_0 a0_1 a0_2 l0_3 a0_4 l0_5 ((rd_T60 l0_5 x3_2).f0) ((rd_T60 l0_5 x3_2).f1) ((rd_T60 l0_5 x3_2).f2) = some r) ∧ Aside0 (kq ≤ k2) ∧ Aside0 (wc.heap[gb121]? = some (.cells #[.int .i64 a0_0, .int .u64 a0_1, .int .u64 a0_2, (.slice A0_3 l0_3.length c0_3), .int .i64 a0_4, (.slice (some ad122) l0_5.length c0_5)] 46 (0, 0))) ∧ Aside0 (wc.heap[gb123]? = some (.cells #[.int .u64 ((rd_T60 l0_5 x3_2).f0), .int .u64 ((rd_T60 l0_5 x3_2).f1), .string ((rd_T60 l0_5 x3_2).f2)] 60 (0, 0))) ∧ Aside0 (Below w.heap.size w wc))
                case first =>
                  have H := HC18.out
                  clear HC18
                  by_cases c23 : ((rd_T60 l0_5 x3_2).f0) < 1
                  · rw [if_pos c23] at H
                    have c23b0 : decide (((rd_T60 l0_5 x3_2).f0) < 1) = true := decide_eq_true c23
                    clear c23
                    (first | rw [c23b0] | (simp only [i64_w, i32_w]; rw [c23b0]) | skip)
                    have H' := Aside0.mk H
                    clear H
                    have hnb24 := NB123_121.out
                    have hnc24 := NB121_123.out
                    have hcz25_0 : w20.cell? ⟨gb123, 0, none⟩ = some (.int .u64 0) := (blk_cell BK123.out 0).trans rfl
                    have hcz25_1 : w20.cell? ⟨gb123, 1, none⟩ = some (.int .u64 0) := (blk_cell BK123.out 1).trans rfl
                    have hcz25_2 : w20.cell? ⟨gb123, 2, none⟩ = some (.string (⟨#[]⟩ : ByteArray)) := (blk_cell BK123.out 2).trans rfl
                    have hfz25_0 := blk_frozen BK123.out 0
                    have hfz25_1 := blk_frozen BK123.out 1
                    have hfz25_2 := blk_frozen BK123.out 2
                    go_wp2
                    repeat (go_quiet (fail); try go_wp2)
                    go_meet
                    case rel => exact ⟨_, (true), (by first | rfl | (simp; done) | (simp [*]; done)), H', ⟨by have := HJ1.out; have := HK2.out; first | omega | exact Nat.le_refl _⟩, ⟨by (with_reducible repeat (first | refine blk_drewN ?_ _ | refine blk_drew ?_ | refine blk_alloc ?_ _)); refine blk_far ?_ NB121_123.out _; (with_reducible repeat (first | refine blk_drewN ?_ _ | refine blk_drew ?_ | refine blk_alloc ?_ _)); refine blk_far ?_ NB121_123.out _; (with_reducible repeat (first | refine blk_drewN ?_ _ | refine blk_drew ?_ | refine blk_alloc ?_ _)); refine blk_far ?_ NB121_123.out _; (with_reducible repeat (first | refine blk_drewN ?_ _ | refine blk_drew ?_ | refine blk_alloc ?_ _)); exact BK121.out⟩, ⟨by (with_reducible repeat (first | refine blk_drewN ?_ _ | refine blk_drew ?_ | refine blk_alloc ?_ _)); refine blk_put (cs := #[.int .u64 ((rd_T60 l0_5 x3_2).f0), .int .u64 ((rd_T60 l0_5 x3_2).f1), .string (⟨#[]⟩ : ByteArray)]) ?_ 2 _ rfl; (with_reducible repeat (first | refine blk_drewN ?_ _ | refine blk_drew ?_ | refine blk_alloc ?_ _)); refine blk_put (cs := #[.int .u64 ((rd_T60 l0_5 x3_2).f0), .int .u64 0, .string (⟨#[]⟩ : ByteArray)]) ?_ 1 _ rfl; (with_reducible repeat (first | refine blk_drewN ?_ _ | refine blk_drew ?_ | refine blk_alloc ?_ _)); refine blk_put (cs := #[.int .u64 0, .int .u64 0, .string (⟨#[]⟩ : ByteArray)]) ?_ 0 _ rfl; (with_reducible repeat (first | refine blk_drewN ?_ _ | refine blk_drew ?_ | refine blk_alloc ?_ _)); exact BK123.out⟩, ⟨by repeat (first | (with_reducible first | exact HB.out | apply below_alloc | apply pw_below_drewN | apply below_drew1 | refine below_set ?_ GE121.out | refine below_set ?_ GE123.out) | exact HB.out)⟩⟩
                  · rw [if_neg c23] at H
                    have c23b0 : decide (((rd_T60 l0_5 x3_2).f0) < 1) = false := decide_eq_false c23
                    clear c23
                    (first | rw [c23b0] | (simp only [i64_w, i32_w]; rw [c23b0]) | skip)
                    by_cases c26 : ((rd_T60 l0_5 x3_2).f1) ≤ ((rd_T60 l0_5 x3_2).f0)
                    · rw [if_pos c26] at H
                      have c26b0 : decide (((rd_T60 l0_5 x3_2).f1) ≤ ((rd_T60 l0_5 x3_2).f0)) = true := decide_eq_true c26
                      clear c26
                      have H' := Aside0.mk H
                      clear H
                      have hnb27 := NB123_121.out
                      have hnc27 := NB121_123.out
                      have hcz28_0 : w20.cell? ⟨gb123, 0, none⟩ = some (.int .u64 0) := (blk_cell BK123.out 0).trans rfl
                      have hcz28_1 : w20.cell? ⟨gb123, 1, none⟩ = some (.int .u64 0) := (blk_cell BK123.out 1).trans rfl
                      have hcz28_2 : w20.cell? ⟨gb123, 2, none⟩ = some (.string (⟨#[]⟩ : ByteArray)) := (blk_cell BK123.out 2).trans rfl
                      have hfz28_0 := blk_frozen BK123.out 0
                      have hfz28_1 := blk_frozen BK123.out 1
                      have hfz28_2 := blk_frozen BK123.out 2
                      go_wp2
                      repeat (go_quiet (fail); try go_wp2)
                      go_meet
                      case rel => exact ⟨_, (true), (by first | rfl | (simp; done) | (simp [*]; done)), H', ⟨by have := HJ1.out; have := HK2.out; first | omega | exact Nat.le_refl _⟩, ⟨by (with_reducible repeat (first | refine blk_drewN ?_ _ | refine blk_drew ?_ | refine blk_alloc ?_ _)); refine blk_far ?_ NB121_123.out _; (with_reducible repeat (first | refine blk_drewN ?_ _ | refine blk_drew ?_ | refine blk_alloc ?_ _)); refine blk_far ?_ NB121_123.out _; (with_reducible repeat (first | refine blk_drewN ?_ _ | refine blk_drew ?_ | refine blk_alloc ?_ _)); refine blk_far ?_ NB121_123.out _; (with_reducible repeat (first | refine blk_drewN ?_ _ | refine blk_drew ?_ | refine blk_alloc ?_ _)); exact BK121.out⟩, ⟨by (with_reducible repeat (first | refine blk_drewN ?_ _ | refine blk_drew ?_ | refine blk_alloc ?_ _)); refine blk_put (cs := #[.int .u64 ((rd_T60 l0_5 x3_2).f0), .int .u64 ((rd_T60 l0_5 x3_2).f1), .string (⟨#[]⟩ : ByteArray)]) ?_ 2 _ rfl; (with_reducible repeat (first | refine blk_drewN ?_ _ | refine blk_drew ?_ | refine blk_alloc ?_ _)); refine blk_put (cs := #[.int .u64 ((rd_T60 l0_5 x3_2).f0), .int .u64 0, .string (⟨#[]⟩ : ByteArray)]) ?_ 1 _ rfl; (with_reducible repeat (first | refine blk_drewN ?_ _ | refine blk_drew ?_ | refine blk_alloc ?_ _)); refine blk_put (cs := #[.int .u64 0, .int .u64 0, .string (⟨#[]⟩ : ByteArray)]) ?_ 0 _ rfl; (with_reducible repeat (first | refine blk_drewN ?_ _ | refine blk_drew ?_ | refine blk_alloc ?_ _)); exact BK123.out⟩, ⟨by repeat (first | (with_reducible first | exact HB.out | apply below_alloc | apply pw_below_drewN | apply below_drew1 | refine below_set ?_ GE121.out | refine below_set ?_ GE123.out) | exact HB.out)⟩⟩
                    · rw [if_neg c26] at H
                      have c26b0 : decide (((rd_T60 l0_5 x3_2).f1) ≤ ((rd_T60 l0_5 x3_2).f0)) = false := decide_eq_false c26
                      clear c26
                      by_cases c29 : ((rd_T60 l0_5 x3_2).f1) > 4611686018427387903
                      · rw [if_pos c29] at H
                        have c29b0 : decide (4611686018427387903 < ((rd_T60 l0_5 x3_2).f1)) = true := decide_eq_true c29
                        clear c29
                        have H' := Aside0.mk H
                        clear H
                        have hnb30 := NB123_121.out
                        have hnc30 := NB121_123.out
                        have hcz31_0 : w20.cell? ⟨gb123, 0, none⟩ = some (.int .u64 0) := (blk_cell BK123.out 0).trans rfl
                        have hcz31_1 : w20.cell? ⟨gb123, 1, none⟩ = some (.int .u64 0) := (blk_cell BK123.out 1).trans rfl
                        have hcz31_2 : w20.cell? ⟨gb123, 2, none⟩ = some (.string (⟨#[]⟩ : ByteArray)) := (blk_cell BK123.out 2).trans rfl
                        have hfz31_0 := blk_frozen BK123.out 0
                        have hfz31_1 := blk_frozen BK123.out 1
                        have hfz31_2 := blk_frozen BK123.out 2
                        go_wp2
                        repeat (go_quiet (fail); try go_wp2)
                        go_meet
                        case rel => exact ⟨_, (true), (by first | rfl | (simp; done) | (simp [*]; done)), H', ⟨by have := HJ1.out; have := HK2.out; first | omega | exact Nat.le_refl _⟩, ⟨by (with_reducible repeat (first | refine blk_drewN ?_ _ | refine blk_drew ?_ | refine blk_alloc ?_ _)); refine blk_far ?_ NB121_123.out _; (with_reducible repeat (first | refine blk_drewN ?_ _ | refine blk_drew ?_ | refine blk_alloc ?_ _)); refine blk_far ?_ NB121_123.out _; (with_reducible repeat (first | refine blk_drewN ?_ _ | refine blk_drew ?_ | refine blk_alloc ?_ _)); refine blk_far ?_ NB121_123.out _; (with_reducible repeat (first | refine blk_drewN ?_ _ | refine blk_drew ?_ | refine blk_alloc ?_ _)); exact BK121.out⟩, ⟨by (with_reducible repeat (first | refine blk_drewN ?_ _ | refine blk_drew ?_ | refine blk_alloc ?_ _)); refine blk_put (cs := #[.int .u64 ((rd_T60 l0_5 x3_2).f0), .int .u64 ((rd_T60 l0_5 x3_2).f1), .string (⟨#[]⟩ : ByteArray)]) ?_ 2 _ rfl; (with_reducible repeat (first | refine blk_drewN ?_ _ | refine blk_drew ?_ | refine blk_alloc ?_ _)); refine blk_put (cs := #[.int .u64 ((rd_T60 l0_5 x3_2).f0), .int .u64 0, .string (⟨#[]⟩ : ByteArray)]) ?_ 1 _ rfl; (with_reducible repeat (first | refine blk_drewN ?_ _ | refine blk_drew ?_ | refine blk_alloc ?_ _)); refine blk_put (cs := #[.int .u64 0, .int .u64 0, .string (⟨#[]⟩ : ByteArray)]) ?_ 0 _ rfl; (with_reducible repeat (first | refine blk_drewN ?_ _ | refine blk_drew ?_ | refine blk_alloc ?_ _)); exact BK123.out⟩, ⟨by repeat (first | (with_reducible first | exact HB.out | apply below_alloc | apply pw_below_drewN | apply below_drew1 | refine below_set ?_ GE121.out | refine below_set ?_ GE123.out) | exact HB.out)⟩⟩
                      · rw [if_neg c29] at H
                        have c29b0 : decide (4611686018427387903 < ((rd_T60 l0_5 x3_2).f1)) = false := decide_eq_false c29
                        clear c29
                        replace H := Option.bind_eq_some_iff.mp H
                        obtain ⟨t124, A320, H⟩ := H
                        replace H : (strataref12_deltaMay.j2 k2 x3_2 (!t124) a0_0 a0_1 a0_2 l0_3 a0_4 l0_5 ((rd_T60 l0_5 x3_2).f0) ((rd_T60 l0_5 x3_2).f1) ((rd_T60 l0_5 x3_2).f2)) = some r := H
                        have A32 := Aside0.mk A320
                        clear A320
                        have H' := Aside0.mk H
                        clear H
                        have hnb33 := NB123_121.out
                        have hnc33 := NB121_123.out
                        have hcz34_0 : w20.cell? ⟨gb123, 0, none⟩ = some (.int .u64 0) := (blk_cell BK123.out 0).trans rfl
                        have hcz34_1 : w20.cell? ⟨gb123, 1, none⟩ = some (.int .u64 0) := (blk_cell BK123.out 1).trans rfl
                        have hcz34_2 : w20.cell? ⟨gb123, 2, none⟩ = some (.string (⟨#[]⟩ : ByteArray)) := (blk_cell BK123.out 2).trans rfl
                        have hfz34_0 := blk_frozen BK123.out 0
                        have hfz34_1 := blk_frozen BK123.out 1
                        have hfz34_2 := blk_frozen BK123.out 2
                        go_wp2_with (first | (go_at_call 76; (with_reducible refine (strataref12_key.calls ((rd_T60 l0_5 x3_2).f2) t124 _ A32.out).mono ?_); rintro e w' ⟨rfl, ⟨nd, rfl⟩⟩; (try first | exact ⟨rfl, _, World.drewN_drewN _ _ _⟩ | exact ⟨rfl, _, Eq.trans (World.drewN_drewN _ _ _) (congrArg (World.drewN _) (Nat.add_assoc _ _ _))⟩)))
                        repeat (go_quiet (first | (go_at_call 76; (with_reducible refine (strataref12_key.calls ((rd_T60 l0_5 x3_2).f2) t124 _ A32.out).mono ?_); rintro e w' ⟨rfl, ⟨nd, rfl⟩⟩; (try first | exact ⟨rfl, _, World.drewN_drewN _ _ _⟩ | exact ⟨rfl, _, Eq.trans (World.drewN_drewN _ _ _) (congrArg (World.drewN _) (Nat.add_assoc _ _ _))⟩))); try go_wp2_with (first | (go_at_call 76; (with_reducible refine (strataref12_key.calls ((rd_T60 l0_5 x3_2).f2) t124 _ A32.out).mono ?_); rintro e w' ⟨rfl, ⟨nd, rfl⟩⟩; (try first | exact ⟨rfl, _, World.drewN_drewN _ _ _⟩ | exact ⟨rfl, _, Eq.trans (World.drewN_drewN _ _ _) (congrArg (World.drewN _) (Nat.add_assoc _ _ _))⟩))))
                        go_meet
                        case rel => exact ⟨_, (!t124), (by first | rfl | (simp; done) | (simp [*]; done)), H', ⟨by have := HJ1.out; have := HK2.out; first | omega | exact Nat.le_refl _⟩, ⟨by (with_reducible repeat (first | refine blk_drewN ?_ _ | refine blk_drew ?_ | refine blk_alloc ?_ _)); refine blk_far ?_ NB121_123.out _; (with_reducible repeat (first | refine blk_drewN ?_ _ | refine blk_drew ?_ | refine blk_alloc ?_ _)); refine blk_far ?_ NB121_123.out _; (with_reducible repeat (first | refine blk_drewN ?_ _ | refine blk_drew ?_ | refine blk_alloc ?_ _)); refine blk_far ?_ NB121_123.out _; (with_reducible repeat (first | refine blk_drewN ?_ _ | refine blk_drew ?_ | refine blk_alloc ?_ _)); exact BK121.out⟩, ⟨by (with_reducible repeat (first | refine blk_drewN ?_ _ | refine blk_drew ?_ | refine blk_alloc ?_ _)); refine blk_put (cs := #[.int .u64 ((rd_T60 l0_5 x3_2).f0), .int .u64 ((rd_T60 l0_5 x3_2).f1), .string (⟨#[]⟩ : ByteArray)]) ?_ 2 _ rfl; (with_reducible repeat (first | refine blk_drewN ?_ _ | refine blk_drew ?_ | refine blk_alloc ?_ _)); refine blk_put (cs := #[.int .u64 ((rd_T60 l0_5 x3_2).f0), .int .u64 0, .string (⟨#[]⟩ : ByteArray)]) ?_ 1 _ rfl; (with_reducible repeat (first | refine blk_drewN ?_ _ | refine blk_drew ?_ | refine blk_alloc ?_ _)); refine blk_put (cs := #[.int .u64 0, .int .u64 0, .string (⟨#[]⟩ : ByteArray)]) ?_ 0 _ rfl; (with_reducible repeat (first | refine blk_drewN ?_ _ | refine blk_drew ?_ | refine blk_alloc ?_ _)); exact BK123.out⟩, ⟨by repeat (first | (with_reducible first | exact HB.out | apply below_alloc | apply pw_below_drewN | apply below_drew1 | refine below_set ?_ GE121.out | refine below_set ?_ GE123.out) | exact HB.out)⟩⟩
                case rest =>
                  clear HC18
                  try clear c1
                  try clear p1
                  try clear q1
                  try clear hx1
                  try clear c2
                  try clear p2
                  try clear c3
                  try clear c4
                  try clear c4b0
                  try clear c6
                  try clear c6b0
                  try clear c8
                  try clear c8b0
                  try clear c10
                  try clear c10b0
                  try clear c12
                  try clear c12b0
                  try clear c12b1
                  try clear p12
                  try clear q12
                  try clear hx12
                  try clear c15
                  try clear c16
                  try clear c16b0
                  try clear c17
                  try clear c17b0
                  try clear c21
                  try clear c23
                  try clear c23b0
                  try clear c24
                  try clear c26
                  try clear c26b0
                  try clear c27
                  try clear c29
                  try clear c29b0
                  try clear c30
                  try clear c33
                  try clear hcz11_0
                  try clear hcz11_1
                  try clear hcz11_2
                  try clear hcz11_3
                  try clear hcz11_4
                  try clear hcz11_5
                  try clear hcz13_0
                  try clear hcz13_1
                  try clear hcz13_2
                  try clear hcz13_3
                  try clear hcz13_4
                  try clear hcz13_5
                  try clear hcz14_0
                  try clear hcz14_1
                  try clear hcz14_2
                  try clear hcz14_3
                  try clear hcz14_4
                  try clear hcz14_5
                  try clear hcz19_0
                  try clear hcz19_1
                  try clear hcz19_2
                  try clear hcz19_3
                  try clear hcz19_4
                  try clear hcz19_5
                  try clear hcz22_0
                  try clear hcz22_1
                  try clear hcz22_2
                  try clear hcz25_0
                  try clear hcz25_1
                  try clear hcz25_2
                  try clear hcz28_0
                  try clear hcz28_1
                  try clear hcz28_2
                  try clear hcz31_0
                  try clear hcz31_1
                  try clear hcz31_2
                  try clear hcz34_0
                  try clear hcz34_1
                  try clear hcz34_2
                  try clear hcz5_0
                  try clear hcz5_1
                  try clear hcz5_2
                  try clear hcz5_3
                  try clear hcz5_4
                  try clear hcz5_5
                  try clear hcz7_0
                  try clear hcz7_1
                  try clear hcz7_2
                  try clear hcz7_3
                  try clear hcz7_4
                  try clear hcz7_5
                  try clear hcz9_0
                  try clear hcz9_1
                  try clear hcz9_2
                  try clear hcz9_3
                  try clear hcz9_4
                  try clear hcz9_5
                  try clear hfz11_0
                  try clear hfz11_1
                  try clear hfz11_2
                  try clear hfz11_3
                  try clear hfz11_4
                  try clear hfz11_5
                  try clear hfz13_0
                  try clear hfz13_1
                  try clear hfz13_2
                  try clear hfz13_3
                  try clear hfz13_4
                  try clear hfz13_5
                  try clear hfz14_0
                  try clear hfz14_1
                  try clear hfz14_2
                  try clear hfz14_3
                  try clear hfz14_4
                  try clear hfz14_5
                  try clear hfz19_0
                  try clear hfz19_1
                  try clear hfz19_2
                  try clear hfz19_3
                  try clear hfz19_4
                  try clear hfz19_5
                  try clear hfz22_0
                  try clear hfz22_1
                  try clear hfz22_2
                  try clear hfz25_0
                  try clear hfz25_1
                  try clear hfz25_2
                  try clear hfz28_0
                  try clear hfz28_1
                  try clear hfz28_2
                  try clear hfz31_0
                  try clear hfz31_1
                  try clear hfz31_2
                  try clear hfz34_0
                  try clear hfz34_1
                  try clear hfz34_2
                  try clear hfz5_0
                  try clear hfz5_1
                  try clear hfz5_2
                  try clear hfz5_3
                  try clear hfz5_4
                  try clear hfz5_5
                  try clear hfz7_0
                  try clear hfz7_1
                  try clear hfz7_2
                  try clear hfz7_3
                  try clear hfz7_4
                  try clear hfz7_5
                  try clear hfz9_0
                  try clear hfz9_1
                  try clear hfz9_2
                  try clear hfz9_3
                  try clear hfz9_4
                  try clear hfz9_5
                  try clear hx122_0
                  try clear hx122_1
                  try clear hx122_2
                  try clear p122
                  try clear p2
                  try clear q122
                  obtain ⟨kq, x67_17, rfl, HA, HJ17, BK121, BK123, HB⟩ := hcut
                  cases kq with
                  | zero => exact absurd HA.out (by simp [strataref12_deltaMay.j2])
                  | succ kj17 =>
                    have H := HA.out
                    clear HA
                    simp only [strataref12_deltaMay.j2] at H
                    by_cases c35 : x67_17 = true
                    · subst c35
                      have H1 : (some false) = some r := by rw [if_pos rfl] at H; exact H
                      clear H
                      have H := H1
                      clear H1
                      obtain rfl := Option.some.inj H
                      go_wp2
                      repeat (go_quiet (fail); try go_wp2)
                      go_ret
                      exact ⟨by first | rfl | (simp [errW_none, errW_some] <;> rfl) | (simp [*, errW_none, errW_some] <;> rfl), by repeat (first | (with_reducible first | exact HB.out | apply below_alloc | apply pw_below_drewN | apply below_drew1 | refine below_set ?_ GE121.out | refine below_set ?_ GE123.out) | exact HB.out)⟩
                    · replace c35 := Bool.eq_false_iff.mpr c35
                      subst c35
                      have H1 : (if x3_2 > 0 then (if 0 ≤ (wrap64 (x3_2 - 1)) then (if (wrap64 (x3_2 - 1)) < (l0_5.length : Int) then ((strataref12_ahead.f ((rd_T60 l0_5 (wrap64 (x3_2 - 1))).f0) ((rd_T60 l0_5 (wrap64 (x3_2 - 1))).f2) ((rd_T60 l0_5 x3_2).f0) ((rd_T60 l0_5 x3_2).f2)).bind fun t127 => (if t127 = true then (strataref12_deltaMay.l0 kj17 (wrap64 (x3_2 + 1)) a0_0 a0_1 a0_2 l0_3 a0_4 l0_5) else (some false))) else (none)) else (none)) else (strataref12_deltaMay.l0 kj17 (wrap64 (x3_2 + 1)) a0_0 a0_1 a0_2 l0_3 a0_4 l0_5)) = some r := by rw [if_neg (show ¬ (false = true) by decide)] at H; exact H
                      clear H
                      have H := H1
                      clear H1
                      by_cases c36 : x3_2 > 0
                      · rw [if_pos c36] at H
                        have c36b0 : decide (0 < x3_2) = true := decide_eq_true c36
                        clear c36
                        obtain ⟨ji37, hji37⟩ : ∃ j_ : Int, (wrap64 (x3_2 - 1)) = j_ := ⟨_, rfl⟩
                        replace H : (if 0 ≤ (ji37) then (if (ji37) < (l0_5.length : Int) then ((strataref12_ahead.f ((rd_T60 l0_5 (ji37)).f0) ((rd_T60 l0_5 (ji37)).f2) ((rd_T60 l0_5 x3_2).f0) ((rd_T60 l0_5 x3_2).f2)).bind fun t127 => (if t127 = true then (strataref12_deltaMay.l0 kj17 (wrap64 (x3_2 + 1)) a0_0 a0_1 a0_2 l0_3 a0_4 l0_5) else (some false))) else (none)) else (none)) = some r := by first | (rw [hji37] at H; exact H) | (simp only [hji37] at H ⊢; exact H)
                        have hji37w : (IntKind.i64.wrap (x3_2 - 1)) = ji37 := (i64_w _).trans hji37
                        by_cases c38 : 0 ≤ (ji37)
                        · rw [if_pos c38] at H
                          have c38b0 : decide (0 ≤ (ji37)) = true := decide_eq_true c38
                          clear c38
                          by_cases c39 : (ji37) < (l0_5.length : Int)
                          · rw [if_pos c39] at H
                            have c39b0 : decide ((ji37) < (l0_5.length : Int)) = true := decide_eq_true c39
                            clear c39
                            replace H := Option.bind_eq_some_iff.mp H
                            obtain ⟨t127, A400, H⟩ := H
                            replace H : (if t127 = true then (strataref12_deltaMay.l0 kj17 (wrap64 (x3_2 + 1)) a0_0 a0_1 a0_2 l0_3 a0_4 l0_5) else (some false)) = some r := H
                            have A40 := Aside0.mk A400
                            clear A400
                            by_cases c41 : t127 = true
                            · subst c41
                              have H1 : (strataref12_deltaMay.l0 kj17 (wrap64 (x3_2 + 1)) a0_0 a0_1 a0_2 l0_3 a0_4 l0_5) = some r := by rw [if_pos rfl] at H; exact H
                              clear H
                              have H := H1
                              clear H1
                              have H' := Aside0.mk H
                              clear H
                              have hnb42 := NB121_123.out
                              have hnc42 := NB123_121.out
                              have hcz43_0 : wc.cell? ⟨gb121, 0, none⟩ = some (.int .i64 a0_0) := (blk_cell BK121.out 0).trans rfl
                              have hcz43_1 : wc.cell? ⟨gb121, 1, none⟩ = some (.int .u64 a0_1) := (blk_cell BK121.out 1).trans rfl
                              have hcz43_2 : wc.cell? ⟨gb121, 2, none⟩ = some (.int .u64 a0_2) := (blk_cell BK121.out 2).trans rfl
                              have hcz43_3 : wc.cell? ⟨gb121, 3, none⟩ = some (.slice A0_3 l0_3.length c0_3) := (blk_cell BK121.out 3).trans rfl
                              have hcz43_4 : wc.cell? ⟨gb121, 4, none⟩ = some (.int .i64 a0_4) := (blk_cell BK121.out 4).trans rfl
                              have hcz43_5 : wc.cell? ⟨gb121, 5, none⟩ = some (.slice (some ad122) l0_5.length c0_5) := (blk_cell BK121.out 5).trans rfl
                              have hfz43_0 := blk_frozen BK121.out 0
                              have hfz43_1 := blk_frozen BK121.out 1
                              have hfz43_2 := blk_frozen BK121.out 2
                              have hfz43_3 := blk_frozen BK121.out 3
                              have hfz43_4 := blk_frozen BK121.out 4
                              have hfz43_5 := blk_frozen BK121.out 5
                              have p125 : 0 ≤ ((ji37) : Int) := of_decide_eq_true (by first | (with_reducible assumption) | assumption)
                              have q125 : (ji37) < (l0_5.length : Int) := of_decide_eq_true (by first | (with_reducible assumption) | assumption)
                              obtain ⟨ad125, e125, hx125_0, hx125_1, hx125_2⟩ := at_T60 HR0_5.out (ji37) p125 q125
                              obtain rfl : ad122 = ad125 := (by injection e125)
                              replace hx125_0 := (HB.out.cell (World.block_lt_of_cell? w _ hx125_0)).trans hx125_0
                              replace hx125_1 := (HB.out.cell (World.block_lt_of_cell? w _ hx125_1)).trans hx125_1
                              replace hx125_2 := (HB.out.cell (World.block_lt_of_cell? w _ hx125_2)).trans hx125_2
                              replace p125 := eq_true p125
                              replace q125 := eq_true q125
                              have p126 : 0 ≤ ((ji37) : Int) := of_decide_eq_true (by first | (with_reducible assumption) | assumption)
                              have q126 : (ji37) < (l0_5.length : Int) := of_decide_eq_true (by first | (with_reducible assumption) | assumption)
                              obtain ⟨ad126, e126, hx126_0, hx126_1, hx126_2⟩ := at_T60 HR0_5.out (ji37) p126 q126
                              obtain rfl : ad122 = ad126 := (by injection e126)
                              replace hx126_0 := (HB.out.cell (World.block_lt_of_cell? w _ hx126_0)).trans hx126_0
                              replace hx126_1 := (HB.out.cell (World.block_lt_of_cell? w _ hx126_1)).trans hx126_1
                              replace hx126_2 := (HB.out.cell (World.block_lt_of_cell? w _ hx126_2)).trans hx126_2
                              replace p126 := eq_true p126
                              replace q126 := eq_true q126
                              have hcz44_0 : wc.cell? ⟨gb123, 0, none⟩ = some (.int .u64 ((rd_T60 l0_5 x3_2).f0)) := (blk_cell BK123.out 0).trans rfl
                              have hcz44_1 : wc.cell? ⟨gb123, 1, none⟩ = some (.int .u64 ((rd_T60 l0_5 x3_2).f1)) := (blk_cell BK123.out 1).trans rfl
                              have hcz44_2 : wc.cell? ⟨gb123, 2, none⟩ = some (.string ((rd_T60 l0_5 x3_2).f2)) := (blk_cell BK123.out 2).trans rfl
                              have hfz44_0 := blk_frozen BK123.out 0
                              have hfz44_1 := blk_frozen BK123.out 1
                              have hfz44_2 := blk_frozen BK123.out 2
                              go_wp2_with (first | (go_at_call 77; (with_reducible refine (strataref12_ahead.calls ((rd_T60 l0_5 (ji37)).f0) ((rd_T60 l0_5 (ji37)).f2) ((rd_T60 l0_5 x3_2).f0) ((rd_T60 l0_5 x3_2).f2) true _ A40.out).mono ?_); rintro e w' ⟨rfl, ⟨nd, rfl⟩⟩; (try first | exact ⟨rfl, _, World.drewN_drewN _ _ _⟩ | exact ⟨rfl, _, Eq.trans (World.drewN_drewN _ _ _) (congrArg (World.drewN _) (Nat.add_assoc _ _ _))⟩)))
                              repeat (go_quiet (first | (go_at_call 77; (with_reducible refine (strataref12_ahead.calls ((rd_T60 l0_5 (ji37)).f0) ((rd_T60 l0_5 (ji37)).f2) ((rd_T60 l0_5 x3_2).f0) ((rd_T60 l0_5 x3_2).f2) true _ A40.out).mono ?_); rintro e w' ⟨rfl, ⟨nd, rfl⟩⟩; (try first | exact ⟨rfl, _, World.drewN_drewN _ _ _⟩ | exact ⟨rfl, _, Eq.trans (World.drewN_drewN _ _ _) (congrArg (World.drewN _) (Nat.add_assoc _ _ _))⟩))); try go_wp2_with (first | (go_at_call 77; (with_reducible refine (strataref12_ahead.calls ((rd_T60 l0_5 (ji37)).f0) ((rd_T60 l0_5 (ji37)).f2) ((rd_T60 l0_5 x3_2).f0) ((rd_T60 l0_5 x3_2).f2) true _ A40.out).mono ?_); rintro e w' ⟨rfl, ⟨nd, rfl⟩⟩; (try first | exact ⟨rfl, _, World.drewN_drewN _ _ _⟩ | exact ⟨rfl, _, Eq.trans (World.drewN_drewN _ _ _) (congrArg (World.drewN _) (Nat.add_assoc _ _ _))⟩))))
                              go_roundg kj17
                              case measure => have := HJ1.out; have := HK2.out; have := HJ17.out; omega
                              case rel => exact ⟨(wrap64 (x3_2 + 1)), (by first | rfl | (simp; done) | (simp [*]; done)), H', ⟨by have := HJ1.out; have := HK2.out; have := HJ17.out; omega⟩, ⟨by (with_reducible repeat (first | refine blk_drewN ?_ _ | refine blk_drew ?_ | refine blk_alloc ?_ _)); exact BK121.out⟩, ⟨by repeat (first | (with_reducible first | exact HB.out | apply below_alloc | apply pw_below_drewN | apply below_drew1 | refine below_set ?_ GE121.out | refine below_set ?_ GE123.out) | exact HB.out)⟩⟩
                            · replace c41 := Bool.eq_false_iff.mpr c41
                              subst c41
                              have H1 : (some false) = some r := by rw [if_neg (show ¬ (false = true) by decide)] at H; exact H
                              clear H
                              have H := H1
                              clear H1
                              obtain rfl := Option.some.inj H
                              have hnb45 := NB121_123.out
                              have hnc45 := NB123_121.out
                              have hcz46_0 : wc.cell? ⟨gb121, 0, none⟩ = some (.int .i64 a0_0) := (blk_cell BK121.out 0).trans rfl
                              have hcz46_1 : wc.cell? ⟨gb121, 1, none⟩ = some (.int .u64 a0_1) := (blk_cell BK121.out 1).trans rfl
                              have hcz46_2 : wc.cell? ⟨gb121, 2, none⟩ = some (.int .u64 a0_2) := (blk_cell BK121.out 2).trans rfl
                              have hcz46_3 : wc.cell? ⟨gb121, 3, none⟩ = some (.slice A0_3 l0_3.length c0_3) := (blk_cell BK121.out 3).trans rfl
                              have hcz46_4 : wc.cell? ⟨gb121, 4, none⟩ = some (.int .i64 a0_4) := (blk_cell BK121.out 4).trans rfl
                              have hcz46_5 : wc.cell? ⟨gb121, 5, none⟩ = some (.slice (some ad122) l0_5.length c0_5) := (blk_cell BK121.out 5).trans rfl
                              have hfz46_0 := blk_frozen BK121.out 0
                              have hfz46_1 := blk_frozen BK121.out 1
                              have hfz46_2 := blk_frozen BK121.out 2
                              have hfz46_3 := blk_frozen BK121.out 3
                              have hfz46_4 := blk_frozen BK121.out 4
                              have hfz46_5 := blk_frozen BK121.out 5
                              have p125 : 0 ≤ ((ji37) : Int) := of_decide_eq_true (by first | (with_reducible assumption) | assumption)
                              have q125 : (ji37) < (l0_5.length : Int) := of_decide_eq_true (by first | (with_reducible assumption) | assumption)
                              obtain ⟨ad125, e125, hx125_0, hx125_1, hx125_2⟩ := at_T60 HR0_5.out (ji37) p125 q125
                              obtain rfl : ad122 = ad125 := (by injection e125)
                              replace hx125_0 := (HB.out.cell (World.block_lt_of_cell? w _ hx125_0)).trans hx125_0
                              replace hx125_1 := (HB.out.cell (World.block_lt_of_cell? w _ hx125_1)).trans hx125_1
                              replace hx125_2 := (HB.out.cell (World.block_lt_of_cell? w _ hx125_2)).trans hx125_2
                              replace p125 := eq_true p125
                              replace q125 := eq_true q125
                              have p126 : 0 ≤ ((ji37) : Int) := of_decide_eq_true (by first | (with_reducible assumption) | assumption)
                              have q126 : (ji37) < (l0_5.length : Int) := of_decide_eq_true (by first | (with_reducible assumption) | assumption)
                              obtain ⟨ad126, e126, hx126_0, hx126_1, hx126_2⟩ := at_T60 HR0_5.out (ji37) p126 q126
                              obtain rfl : ad122 = ad126 := (by injection e126)
                              replace hx126_0 := (HB.out.cell (World.block_lt_of_cell? w _ hx126_0)).trans hx126_0
                              replace hx126_1 := (HB.out.cell (World.block_lt_of_cell? w _ hx126_1)).trans hx126_1
                              replace hx126_2 := (HB.out.cell (World.block_lt_of_cell? w _ hx126_2)).trans hx126_2
                              replace p126 := eq_true p126
                              replace q126 := eq_true q126
                              have hcz47_0 : wc.cell? ⟨gb123, 0, none⟩ = some (.int .u64 ((rd_T60 l0_5 x3_2).f0)) := (blk_cell BK123.out 0).trans rfl
                              have hcz47_1 : wc.cell? ⟨gb123, 1, none⟩ = some (.int .u64 ((rd_T60 l0_5 x3_2).f1)) := (blk_cell BK123.out 1).trans rfl
                              have hcz47_2 : wc.cell? ⟨gb123, 2, none⟩ = some (.string ((rd_T60 l0_5 x3_2).f2)) := (blk_cell BK123.out 2).trans rfl
                              have hfz47_0 := blk_frozen BK123.out 0
                              have hfz47_1 := blk_frozen BK123.out 1
                              have hfz47_2 := blk_frozen BK123.out 2
                              go_wp2_with (first | (go_at_call 77; (with_reducible refine (strataref12_ahead.calls ((rd_T60 l0_5 (ji37)).f0) ((rd_T60 l0_5 (ji37)).f2) ((rd_T60 l0_5 x3_2).f0) ((rd_T60 l0_5 x3_2).f2) false _ A40.out).mono ?_); rintro e w' ⟨rfl, ⟨nd, rfl⟩⟩; (try first | exact ⟨rfl, _, World.drewN_drewN _ _ _⟩ | exact ⟨rfl, _, Eq.trans (World.drewN_drewN _ _ _) (congrArg (World.drewN _) (Nat.add_assoc _ _ _))⟩)))
                              repeat (go_quiet (first | (go_at_call 77; (with_reducible refine (strataref12_ahead.calls ((rd_T60 l0_5 (ji37)).f0) ((rd_T60 l0_5 (ji37)).f2) ((rd_T60 l0_5 x3_2).f0) ((rd_T60 l0_5 x3_2).f2) false _ A40.out).mono ?_); rintro e w' ⟨rfl, ⟨nd, rfl⟩⟩; (try first | exact ⟨rfl, _, World.drewN_drewN _ _ _⟩ | exact ⟨rfl, _, Eq.trans (World.drewN_drewN _ _ _) (congrArg (World.drewN _) (Nat.add_assoc _ _ _))⟩))); try go_wp2_with (first | (go_at_call 77; (with_reducible refine (strataref12_ahead.calls ((rd_T60 l0_5 (ji37)).f0) ((rd_T60 l0_5 (ji37)).f2) ((rd_T60 l0_5 x3_2).f0) ((rd_T60 l0_5 x3_2).f2) false _ A40.out).mono ?_); rintro e w' ⟨rfl, ⟨nd, rfl⟩⟩; (try first | exact ⟨rfl, _, World.drewN_drewN _ _ _⟩ | exact ⟨rfl, _, Eq.trans (World.drewN_drewN _ _ _) (congrArg (World.drewN _) (Nat.add_assoc _ _ _))⟩))))
                              go_ret
                              exact ⟨by first | rfl | (simp [errW_none, errW_some] <;> rfl) | (simp only [← hji37]; first | rfl | (simp [errW_none, errW_some] <;> rfl)) | (simp [*, errW_none, errW_some] <;> rfl), by repeat (first | (with_reducible first | exact HB.out | apply below_alloc | apply pw_below_drewN | apply below_drew1 | refine below_set ?_ GE121.out | refine below_set ?_ GE123.out) | exact HB.out)⟩
                          · rw [if_neg c39] at H
                            exact absurd H (by simp)
                        · rw [if_neg c38] at H
                          exact absurd H (by simp)
                      · rw [if_neg c36] at H
                        have c36b0 : decide (0 < x3_2) = false := decide_eq_false c36
                        clear c36
                        have H' := Aside0.mk H
                        clear H
                        go_wp2
                        repeat (go_quiet (fail); try go_wp2)
                        go_roundg kj17
                        case measure => have := HJ1.out; have := HK2.out; have := HJ17.out; omega
                        case rel => exact ⟨(wrap64 (x3_2 + 1)), (by first | rfl | (simp; done) | (simp [*]; done)), H', ⟨by have := HJ1.out; have := HK2.out; have := HJ17.out; omega⟩, ⟨by (with_reducible repeat (first | refine blk_drewN ?_ _ | refine blk_drew ?_ | refine blk_alloc ?_ _)); exact BK121.out⟩, ⟨by repeat (first | (with_reducible first | exact HB.out | apply below_alloc | apply pw_below_drewN | apply below_drew1 | refine below_set ?_ GE121.out | refine below_set ?_ GE123.out) | exact HB.out)⟩⟩
              · rw [if_neg c17] at H
                exact absurd H (by simp)
            · rw [if_neg c16] at H
              have c16b0 : decide (x3_2 < (l0_5.length : Int)) = false := decide_eq_false c16
              clear c16
              obtain rfl := Option.some.inj H
              have hcz48_0 : wr.cell? ⟨gb121, 0, none⟩ = some (.int .i64 a0_0) := (blk_cell BK121.out 0).trans rfl
              have hcz48_1 : wr.cell? ⟨gb121, 1, none⟩ = some (.int .u64 a0_1) := (blk_cell BK121.out 1).trans rfl
              have hcz48_2 : wr.cell? ⟨gb121, 2, none⟩ = some (.int .u64 a0_2) := (blk_cell BK121.out 2).trans rfl
              have hcz48_3 : wr.cell? ⟨gb121, 3, none⟩ = some (.slice A0_3 l0_3.length c0_3) := (blk_cell BK121.out 3).trans rfl
              have hcz48_4 : wr.cell? ⟨gb121, 4, none⟩ = some (.int .i64 a0_4) := (blk_cell BK121.out 4).trans rfl
              have hcz48_5 : wr.cell? ⟨gb121, 5, none⟩ = some (.slice A0_5 l0_5.length c0_5) := (blk_cell BK121.out 5).trans rfl
              have hfz48_0 := blk_frozen BK121.out 0
              have hfz48_1 := blk_frozen BK121.out 1
              have hfz48_2 := blk_frozen BK121.out 2
              have hfz48_3 := blk_frozen BK121.out 3
              have hfz48_4 := blk_frozen BK121.out 4
              have hfz48_5 := blk_frozen BK121.out 5
              go_wp2
              repeat (go_quiet (fail); try go_wp2)
              go_ret
              exact ⟨by first | rfl | (simp [errW_none, errW_some] <;> rfl) | (simp [*, errW_none, errW_some] <;> rfl), by repeat (first | (with_reducible first | exact HB.out | apply below_alloc | apply pw_below_drewN | apply below_drew1 | refine below_set ?_ GE121.out) | exact HB.out)⟩
end Go.Proofs.YtejjidggnnhgjaaDoor.PImg
/- What may be, by the program and by the document: both come to the plain functions. -/
set_option linter.unusedVariables false
set_option linter.unusedSimpArgs false
namespace Go.Proofs.YtejjidggnnhgjaaDoor.HImK
open Go.RowKit Go.Proofs.YtejjidggnnhgjaaDoor.PImg Go.Proofs.YtejjidggnnhgjaaDoor.HImP Go.Proofs.YtejjidggnnhgjaaDoor.HImD Go.Proofs.YtejjidggnnhgjaaDoorW.PrintWords Go.Proofs.YtejjidggnnhgjaaDoorW.PrintLast Go.Proofs.YtejjidggnnhgjaaDoor.HCore
def pv {X : Type} (b : X → X → Bool) (o : Option X) (x : X) : Bool := match o with | none => true | some y => b y x
theorem gd_cons {X : Type} (c : X → Bool) (b : X → X → Bool) (o : Option X) (x : X) (xs : List X) : HImD.gd c b o (x :: xs) = ((c x && pv b o x) && HImD.gd c b (some x) xs) := by
  cases o <;> simp [HImD.gd, pv]
theorem key_f (s : ByteArray) : image_goodKey.f s = some (decide (1 ≤ s.size ∧ s.size ≤ 160)) := by
  unfold image_goodKey.f
  by_cases h : s.toList = []
  · have hz : s.size = 0 := by rw [← size_list, ← toList_data, h]; rfl
    rw [if_pos h, hz]; rfl
  · have hz : s.size ≠ 0 := fun e => h (by rw [toList_data]; apply List.length_eq_zero_iff.1; rw [size_list, e])
    rw [if_neg h, decide_eq_decide.2 (show ((s.size : Int) ≤ 160) ↔ (1 ≤ s.size ∧ s.size ≤ 160) by omega)]
theorem rkey_f (s : ByteArray) : strataref12_key.f s = some (decide (1 ≤ s.size ∧ s.size ≤ 160)) := by
  unfold strataref12_key.f
  by_cases h : (s.size : Int) ≥ 1
  · rw [if_pos h, decide_eq_decide.2 (show ((s.size : Int) ≤ 160) ↔ (1 ≤ s.size ∧ s.size ≤ 160) by omega)]
  · rw [if_neg h]
    congr 1
    symm
    apply decide_eq_false
    omega
theorem bfr_f (a : Int) (k : ByteArray) (b : Int) (l : ByteArray) : image_place_before.f a k b l = some (bfr a k b l) := by
  unfold image_place_before.f bfr
  rw [toList_data, toList_data]
  by_cases h : a < b
  · rw [if_pos h, decide_eq_true h, Bool.true_or]
  · rw [if_neg h, decide_eq_false h, Bool.false_or]
    by_cases e : a = b
    · rw [if_pos e, decide_eq_true e, Bool.true_and]
    · rw [if_neg e, decide_eq_false e, Bool.false_and]
theorem rahead_f (a : Int) (k : ByteArray) (b : Int) (l : ByteArray) : strataref12_ahead.f a k b l = some (bfr a k b l) := by
  unfold strataref12_ahead.f bfr
  rw [toList_data, toList_data]
  by_cases h : a < b
  · rw [if_pos h, decide_eq_true h, Bool.true_or]
  · rw [if_neg h, decide_eq_false h, Bool.false_or]
    by_cases e : a = b
    · rw [if_pos e, decide_eq_true e, Bool.true_and]
    · rw [if_neg e, decide_eq_false e, Bool.false_and]
theorem wstep (n : Nat) (h : n < 1152921504606846976) : wrap64 ((n : Int) + 1) = ((n + 1 : Nat) : Int) := by rw [w64 (by omega) (by omega)]; omega
theorem wback (n : Nat) (h : n < 1152921504606846976) : wrap64 (((n + 1 : Nat) : Int) - 1) = (n : Int) := by rw [w64 (by omega) (by omega)]; omega
theorem getD_mid {X : Type} (pre : List X) (x z : X) (rest : List X) : (pre ++ x :: rest).getD ((pre.length : Int)).toNat z = x := by
  rw [Int.toNat_natCast, List.getD_eq_getElem?_getD, List.getElem?_append_right (Nat.le_refl _), Nat.sub_self]
  rfl
theorem getD_prev {X : Type} (pre : List X) (y z : X) (rest : List X) (h : pre.getLast? = some y) (n : Nat) (hn : pre.length = n + 1) : (pre ++ rest).getD ((n : Int)).toNat z = y := by
  rw [Int.toNat_natCast, List.getD_eq_getElem?_getD, List.getElem?_append_left (by omega)]
  rw [List.getLast?_eq_getElem?, hn] at h
  simp only [Nat.add_sub_cancel] at h
  rw [h]
  rfl
/-! ### erasures -/
theorem gE_loop : ∀ (rest pre : List SE) (k : Nat) (lb : Int) (lk : ByteArray), pre.length + rest.length < 1152921504606846976 → rest.length < k → ((pre.getLast? = none ∧ lb = 0) ∨ ∃ y, pre.getLast? = some y ∧ lb = y.f0 ∧ lk = y.f2) →
    image_goodDelta.l0 k (pre ++ rest) ((pre ++ rest).length : Int) (pre.length : Int) lb lk = some (HImD.gd cE bE pre.getLast? rest) := by
  intro rest
  induction rest with
  | nil =>
    intro pre k lb lk hn hk _
    obtain ⟨k, rfl⟩ : ∃ m, k = m + 1 := ⟨k - 1, by simp at hk; omega⟩
    unfold image_goodDelta.l0
    rw [if_neg (by simp)]
    cases pre.getLast? <;> rfl
  | cons x rest ih =>
    intro pre k lb lk hn hk hl
    obtain ⟨k, rfl⟩ : ∃ m, k = m + 1 := ⟨k - 1, by simp at hk; omega⟩
    have hrd : rd_T60 (pre ++ x :: rest) (pre.length : Int) = x := getD_mid pre x _ rest
    have hi2 := ih (pre ++ [x]) k x.f0 x.f2 (by simp at hn ⊢; omega) (by simp at hk; omega) (Or.inr ⟨x, List.getLast?_concat, rfl, rfl⟩)
    have hlen : (pre ++ [x]).length = pre.length + 1 := by simp
    rw [List.append_assoc, List.singleton_append, List.getLast?_concat, hlen] at hi2
    have hlt : (pre.length : Int) < ((pre ++ x :: rest).length : Int) := by rw [List.length_append, List.length_cons]; omega
    unfold image_goodDelta.l0
    rw [if_pos hlt, if_pos (by omega), if_pos hlt, hrd, gd_cons, key_f, Option.bind_some, wstep _ (by omega)]
    rw [show cE x = decide (1 ≤ x.f0 ∧ x.f0 < x.f1 ∧ x.f1 ≤ 4611686018427387903 ∧ 1 ≤ x.f2.size ∧ x.f2.size ≤ 160) from rfl]
    by_cases h1 : x.f0 < 1
    · rw [if_pos h1, decide_eq_false (fun h => by omega)]; rfl
    · rw [if_neg h1]
      by_cases h2 : x.f1 ≤ x.f0
      · rw [if_pos h2, decide_eq_false (fun h => by omega)]; rfl
      · rw [if_neg h2]
        by_cases h3 : x.f1 > 4611686018427387903
        · rw [if_pos h3, decide_eq_false (fun h => by omega)]; rfl
        · rw [if_neg h3]
          by_cases h4 : 1 ≤ x.f2.size ∧ x.f2.size ≤ 160
          · rw [decide_eq_true h4, if_pos rfl, decide_eq_true (show 1 ≤ x.f0 ∧ x.f0 < x.f1 ∧ x.f1 ≤ 4611686018427387903 ∧ 1 ≤ x.f2.size ∧ x.f2.size ≤ 160 from ⟨by omega, by omega, by omega, h4.1, h4.2⟩), Bool.true_and, bfr_f, Option.bind_some]
            rcases hl with ⟨hp, rfl⟩ | ⟨y, hp, rfl, rfl⟩
            · rw [hp, show bfr 0 lk x.f0 x.f2 = true by unfold bfr; rw [decide_eq_true (show (0 : Int) < x.f0 by omega), Bool.true_or], if_pos rfl, hi2]
              rfl
            · rw [hp]
              show _ = some (bfr y.f0 y.f2 x.f0 x.f2 && _)
              cases bfr y.f0 y.f2 x.f0 x.f2
              · rw [if_neg (by decide)]; rfl
              · rw [if_pos rfl, hi2]; rfl
          · rw [decide_eq_false h4, if_neg (by decide), decide_eq_false (fun h => h4 ⟨h.2.2.2.1, h.2.2.2.2⟩)]; rfl
theorem goodE_f (id lo hi gen : Int) (ds : List SD) (es : List SE) (hn : es.length < 1152921504606846976) (k : Nat) (hk : es.length + 2 ≤ k) : image_goodDelta.f k id lo hi ds gen es = some (gdE id gen es) := by
  obtain ⟨k, rfl⟩ : ∃ m, k = m + 1 := ⟨k - 1, by omega⟩
  have hl := gE_loop es [] k 0 (⟨#[]⟩ : ByteArray) (by simp; omega) (by omega) (Or.inl ⟨rfl, rfl⟩)
  simp only [List.nil_append, List.length_nil, List.getLast?_nil] at hl
  have hj : ∀ c : Bool, image_goodDelta.j0 (k + 1) c id lo hi ds gen es = if c = true then some false else image_goodDelta.l0 k es (es.length : Int) 0 0 (⟨#[]⟩ : ByteArray) := fun c => by simp only [image_goodDelta.j0]
  unfold image_goodDelta.f gdE
  rw [show ((0 : Nat) : Int) = 0 from rfl] at hl
  by_cases h1 : id < 1
  · rw [if_pos h1, hj, if_pos rfl, decide_eq_false (fun h => by omega)]; rfl
  · rw [if_neg h1]
    by_cases h2 : id > 99999999
    · rw [if_pos h2, hj, if_pos rfl, decide_eq_false (fun h => by omega)]; rfl
    · rw [if_neg h2]
      by_cases h3 : gen < 1
      · rw [if_pos h3, hj, if_pos rfl, decide_eq_false (fun h => by omega)]; rfl
      · rw [if_neg h3]
        by_cases h4 : gen > 99999999
        · rw [if_pos h4, hj, if_pos rfl, decide_eq_false (fun h => by omega)]; rfl
        · rw [if_neg h4]
          by_cases h6 : (es.length : Int) < 1
          · rw [if_pos h6, hj, if_pos rfl, decide_eq_false (fun h => by omega)]; rfl
          · rw [if_neg h6]
            by_cases h5 : (es.length : Int) > 65536
            · rw [hj, decide_eq_true h5, if_pos rfl, decide_eq_false (fun h => by omega)]; rfl
            · rw [hj, decide_eq_false h5, if_neg (by decide), decide_eq_true (show 1 ≤ id ∧ id ≤ 99999999 ∧ 1 ≤ gen ∧ gen ≤ 99999999 ∧ 1 ≤ es.length ∧ es.length ≤ 65536 from ⟨by omega, by omega, by omega, by omega, by omega, by omega⟩), Bool.true_and]
              exact hl
theorem rE_loop (id lo hi gen : Int) (ds : List SD) : ∀ (rest pre : List SE) (k : Nat), pre.length + rest.length < 1152921504606846976 → 2 * rest.length < k →
    strataref12_deltaMay.l0 k (pre.length : Int) id lo hi ds gen (pre ++ rest) = some (HImD.gd cE bE pre.getLast? rest) := by
  intro rest
  induction rest with
  | nil =>
    intro pre k hn hk
    obtain ⟨k, rfl⟩ : ∃ m, k = m + 1 := ⟨k - 1, by simp at hk; omega⟩
    unfold strataref12_deltaMay.l0
    rw [if_neg (by simp)]
    cases pre.getLast? <;> rfl
  | cons x rest ih =>
    intro pre k hn hk
    obtain ⟨k, rfl⟩ : ∃ m, k = m + 2 := ⟨k - 2, by simp at hk; omega⟩
    have hrd : rd_T60 (pre ++ x :: rest) (pre.length : Int) = x := getD_mid pre x _ rest
    have hi2 := ih (pre ++ [x]) k (by simp at hn ⊢; omega) (by simp at hk; omega)
    have hlen : (pre ++ [x]).length = pre.length + 1 := by simp
    rw [List.append_assoc, List.singleton_append, List.getLast?_concat, hlen] at hi2
    unfold strataref12_deltaMay.l0
    have hlt : (pre.length : Int) < ((pre ++ x :: rest).length : Int) := by rw [List.length_append, List.length_cons]; omega
    rw [if_pos hlt, if_pos (by omega), hrd, gd_cons, rkey_f, Option.bind_some]
    have hend : ∀ c : Bool, strataref12_deltaMay.j2 (k + 1) (pre.length : Int) c id lo hi ds gen (pre ++ x :: rest) x.f0 x.f1 x.f2 =
        some ((!c && pv bE pre.getLast? x) && HImD.gd cE bE (some x) rest) := by
      intro c
      rw [strataref12_deltaMay.j2]
      cases c
      · rw [if_neg (by decide), wstep _ (by omega), hi2]
        cases hp : pre.getLast? with
        | none =>
          have : pre = [] := List.getLast?_eq_none_iff.1 hp
          rw [if_neg (by rw [this]; simp)]
          rfl
        | some y =>
          have hne : pre ≠ [] := fun e => by rw [e] at hp; cases hp
          obtain ⟨m, hm⟩ : ∃ m, pre.length = m + 1 := ⟨pre.length - 1, by have := List.length_pos_iff.2 hne; omega⟩
          have hpv : rd_T60 (pre ++ x :: rest) (m : Int) = y := getD_prev pre y _ _ hp m hm
          rw [if_pos (by omega), hm, wback m (by omega), if_pos (by omega), if_pos (by rw [List.length_append]; simp; omega), hpv, rahead_f, Option.bind_some]
          show _ = some (bfr y.f0 y.f2 x.f0 x.f2 && _)
          cases bfr y.f0 y.f2 x.f0 x.f2
          · rw [if_neg (by decide)]; rfl
          · rw [if_pos rfl]; rfl
      · rw [if_pos rfl]; rfl
    rw [show cE x = decide (1 ≤ x.f0 ∧ x.f0 < x.f1 ∧ x.f1 ≤ 4611686018427387903 ∧ 1 ≤ x.f2.size ∧ x.f2.size ≤ 160) from rfl]
    by_cases h1 : x.f0 < 1
    · rw [if_pos h1, hend, decide_eq_false (fun h => by omega)]; rfl
    · rw [if_neg h1]
      by_cases h2 : x.f1 ≤ x.f0
      · rw [if_pos h2, hend, decide_eq_false (fun h => by omega)]; rfl
      · rw [if_neg h2]
        by_cases h3 : x.f1 > 4611686018427387903
        · rw [if_pos h3, hend, decide_eq_false (fun h => by omega)]; rfl
        · rw [if_neg h3, hend]
          by_cases h4 : 1 ≤ x.f2.size ∧ x.f2.size ≤ 160
          · rw [decide_eq_true h4, decide_eq_true (show 1 ≤ x.f0 ∧ x.f0 < x.f1 ∧ x.f1 ≤ 4611686018427387903 ∧ 1 ≤ x.f2.size ∧ x.f2.size ≤ 160 from ⟨by omega, by omega, by omega, h4.1, h4.2⟩)]; rfl
          · rw [decide_eq_false h4, decide_eq_false (fun h => h4 ⟨h.2.2.2.1, h.2.2.2.2⟩)]; rfl
theorem mayE_f (id lo hi gen : Int) (ds : List SD) (es : List SE) (hn : es.length < 1152921504606846976) (k : Nat) (hk : 2 * es.length + 2 ≤ k) : strataref12_deltaMay.f k id lo hi ds gen es = some (gdE id gen es) := by
  obtain ⟨k, rfl⟩ : ∃ m, k = m + 1 := ⟨k - 1, by omega⟩
  have hl := rE_loop id lo hi gen ds es [] k (by simp; omega) (by omega)
  simp only [List.nil_append, List.length_nil, List.getLast?_nil] at hl
  rw [show ((0 : Nat) : Int) = 0 from rfl] at hl
  have hj : ∀ c : Bool, strataref12_deltaMay.j0 (k + 1) c id lo hi ds gen es = if c = true then some false else strataref12_deltaMay.l0 k 0 id lo hi ds gen es := fun c => by simp only [strataref12_deltaMay.j0]
  unfold strataref12_deltaMay.f gdE
  by_cases h1 : id < 1
  · rw [if_pos h1, hj, if_pos rfl, decide_eq_false (fun h => by omega)]; rfl
  · rw [if_neg h1]
    by_cases h2 : id > 99999999
    · rw [if_pos h2, hj, if_pos rfl, decide_eq_false (fun h => by omega)]; rfl
    · rw [if_neg h2]
      by_cases h3 : gen < 1
      · rw [if_pos h3, hj, if_pos rfl, decide_eq_false (fun h => by omega)]; rfl
      · rw [if_neg h3]
        by_cases h4 : gen > 99999999
        · rw [if_pos h4, hj, if_pos rfl, decide_eq_false (fun h => by omega)]; rfl
        · rw [if_neg h4]
          by_cases h6 : (es.length : Int) < 1
          · rw [if_pos h6, hj, if_pos rfl, decide_eq_false (fun h => by omega)]; rfl
          · rw [if_neg h6]
            by_cases h5 : (es.length : Int) > 65536
            · rw [hj, decide_eq_true h5, if_pos rfl, decide_eq_false (fun h => by omega)]; rfl
            · rw [hj, decide_eq_false h5, if_neg (by decide), decide_eq_true (show 1 ≤ id ∧ id ≤ 99999999 ∧ 1 ≤ gen ∧ gen ≤ 99999999 ∧ 1 ≤ es.length ∧ es.length ≤ 65536 from ⟨by omega, by omega, by omega, by omega, by omega, by omega⟩), Bool.true_and]
              exact hl
end Go.Proofs.YtejjidggnnhgjaaDoor.HImK
/- The document's writers of layer 12, as it prints them, come to the bytes of the plain functions. -/
set_option linter.unusedVariables false
set_option linter.unusedSimpArgs false
namespace Go.Proofs.YtejjidggnnhgjaaDoor.HImKe
open Go.RowKit Go.Proofs.YtejjidggnnhgjaaDoor.PImg Go.Proofs.YtejjidggnnhgjaaDoor.HBase Go.Proofs.YtejjidggnnhgjaaDoor.HBlob Go.Proofs.YtejjidggnnhgjaaDoor.HCk Go.Proofs.YtejjidggnnhgjaaDoor.HImP Go.Proofs.YtejjidggnnhgjaaDoor.HImD Go.Proofs.YtejjidggnnhgjaaDoor.HImE Go.Proofs.YtejjidggnnhgjaaDoor.HImK Go.Proofs.YtejjidggnnhgjaaDoorW.PrintWords Go.Proofs.YtejjidggnnhgjaaDoorW.PrintLast Go.Proofs.YtejjidggnnhgjaaDoor.HCore
/-- Bytes as numbers. -/
def nb (l : List UInt8) : List Int := l.map fun c => (c.toNat : Int)
theorem nb_len (l : List UInt8) : (nb l).length = l.length := List.length_map ..
theorem nb_app (l : List UInt8) (t : ByteArray) : nb l ++ bytesOf t = nb (l ++ t.data.toList) := by unfold nb bytesOf; rw [List.map_append]
theorem str_nb (l : List UInt8) : strOfNums (nb l) = ⟨l.toArray⟩ := by
  apply ba_ext
  rw [strOfNums_list]
  unfold nb
  rw [List.map_map]
  conv => rhs; rw [show (⟨l.toArray⟩ : ByteArray).data.toList = l by simp]
  conv => rhs; rw [← List.map_id l]
  apply List.map_congr_left
  intro c _
  show UInt8.ofNat ((c.toNat : Int)).toNat = c
  rw [Int.toNat_natCast]
  simp
theorem uv_f {v : Int} (h : 0 ≤ v ∧ v < 18446744073709551616) : strataref01_Uvarint.f v = some (uvb v.toNat) := by unfold strataref01_Uvarint.f; rw [if_pos ⟨h.1, by omega⟩]
theorem fx_f {v : Int} (h : 0 ≤ v ∧ v < 4294967296) : strataref01_Fixed32.f v = some (fxb 4 v) := by unfold strataref01_Fixed32.f; rw [if_pos ⟨h.1, by omega⟩]
theorem bl_f {s : ByteArray} (h : s.size ≤ 1048576) : strataref12_blob.f s = some (uvb s.size ++ s) := by
  unfold strataref12_blob.f strataref01_Blob.f blobOf
  rw [if_neg (by omega), Option.bind_some]
theorem bl_list (s : ByteArray) : (uvb s.size ++ s).data.toList = tb s := by rw [append_list]; rfl
theorem bl_size (s : ByteArray) : (uvb s.size ++ s).size ≤ 10 + s.size := by rw [app_size]; have := uvb_size s.size; omega
theorem seal_f (lt : ByteArray) (l : List UInt8) (hlt : lt.size = 8) (hl : l.length ≤ 100000000) (k : Nat) (hk : 2000000000 ≤ k) : strataref12_sealed.f k lt (nb l) = some (fileOf lt l) := by
  have hz : (⟨l.toArray⟩ : ByteArray).size = l.length := by rw [← size_list]
  have e : lt ++ (⟨l.toArray⟩ : ByteArray) = ⟨(lt.data.toList ++ l).toArray⟩ := by apply ba_ext; rw [append_list]
  have hz2 : (lt ++ (⟨l.toArray⟩ : ByteArray)).size = 8 + l.length := by rw [app_size, hlt, hz]
  unfold strataref12_sealed.f
  have hr := ck_rng (lt ++ ⟨l.toArray⟩)
  rw [str_nb, if_pos (by rw [hlt, hz]; omega), sum_is _ (by rw [hz2]; omega) k (by rw [hz2]; omega), Option.bind_some, fx_f ⟨hr.1, by omega⟩, Option.bind_some, if_pos (by rw [hz2, fxb_len]; omega)]
  unfold fileOf
  rw [e]
end Go.Proofs.YtejjidggnnhgjaaDoor.HImKe
/- EncodeDelta of layer 12, by the document: bytes appended to a row of the call's own. -/
set_option linter.unusedVariables false
set_option linter.unusedSimpArgs false
namespace Go.Proofs.YtejjidggnnhgjaaDoor.HImEr
open Go.RowKit Go.Proofs.YtejjidggnnhgjaaDoor.PImg Go.Proofs.YtejjidggnnhgjaaDoor.HBase Go.Proofs.YtejjidggnnhgjaaDoor.HBlob Go.Proofs.YtejjidggnnhgjaaDoor.HCk Go.Proofs.YtejjidggnnhgjaaDoor.HImP Go.Proofs.YtejjidggnnhgjaaDoor.HImD Go.Proofs.YtejjidggnnhgjaaDoor.HImE Go.Proofs.YtejjidggnnhgjaaDoor.HImK Go.Proofs.YtejjidggnnhgjaaDoor.HImKe Go.Proofs.YtejjidggnnhgjaaDoorW.PrintWords Go.Proofs.YtejjidggnnhgjaaDoorW.PrintLast Go.Proofs.YtejjidggnnhgjaaDoorW.PrintMore Go.Proofs.YtejjidggnnhgjaaDoor.HCore
/-- What stands while bytes are appended: the row, and the parameter's block. -/
structure Ap (w W : World) (v : Value) (l : List UInt8) (cs : Array Value) : Prop where
  own : W.ownsRow w.heap.size 5 1 v (nb l).length (nums .u8 (nb l))
  below : Below w.heap.size w W
  box : W.heap[w.heap.size]? = some (.cells cs 46 (0, 0))
theorem Ap.step {w W W' : World} {v : Value} {l : List UInt8} {cs : Array Value} (h : Ap w W v l cs) (hb : Below W.heap.size W W') : Ap w W' v l cs :=
  ⟨Kd.own_of_R (enc := Value.int .u8) (h1 := fun _ => rfl) (Kd.R_below (Kd.R_of_own (enc := Value.int .u8) (h1 := fun _ => rfl) (ok := fun _ => True) h.own (fun _ _ => trivial)) hb), below_then h.below h.below.size hb, (hb.block _ (blk_lt h.box)).trans h.box⟩
section
variable {ops : Array Oper} {rest : List Oper} {o : Oper} {a : Act} {Q : Exit → Act → World → Prop}
theorem wp_app {w W : World} (hgd : o.guard = none) (s x : Operand) (ho : o.op = .call { callee := .builtin .append, args := #[s, x], argTypes := #[72, 9] }) (v : Value) (l : List UInt8) (t : ByteArray) (cs : Array Value)
    (hs : a.eval s = v) (hx : a.eval x = .string t) (H : Ap w W v l cs) (hl : l.length + t.size ≤ 100000000)
    (h : ∀ v1 w1, Ap w w1 v1 (l ++ t.data.toList) cs → wpList Tryd.prog ops Q rest (a.put o.dst v1) w1) : wpList Tryd.prog ops Q (o :: rest) a W := by
  refine print_append_str (w0 := w) w.heap.size hgd s x 72 9 5 ho Tryd.underlying72 Tryd.underlying9 info5 v (nb l) t hs hx H.own H.below H.below.size (by rw [nb_len]; omega) ?_
  intro v1 w1 ho hb hg
  rw [nb_app] at ho
  refine h v1 w1 ⟨ho, hb, (hg.block _ (blk_lt H.box) (fun e => ?_)).trans H.box⟩
  obtain ⟨cells, hc⟩ := own_typed H.own _ e.symm
  rw [H.box] at hc
  injection hc with hc
  injection hc with _ hc
  exact absurd hc (by decide)
set_option maxRecDepth 100000 in
theorem wp_app_step {Kc : Act → World → Prop} {w W : World} (hw : Region.wanted o (yielded ops a.tmps) = true) (s x : Operand) (ho : o.op = .call { callee := .builtin .append, args := #[s, x], argTypes := #[72, 9] }) (v : Value) (l : List UInt8) (t : ByteArray) (cs : Array Value)
    (hs : a.eval s = v) (hx : a.eval x = .string t) (H : Ap w W v l cs) (hl : l.length + t.size ≤ 100000000)
    (h : ∀ v1 w1, Ap w w1 v1 (l ++ t.data.toList) cs → Kc (a.put o.dst v1) w1) : if Region.wanted o (yielded ops a.tmps) = true then Oper.wp Tryd.prog o a W Kc Q else Kc (a.put o.dst undef) W := by
  obtain ⟨i0, hi, hzz⟩ := Option.map_eq_some_iff.1 info5
  simp only [Prod.mk.injEq] at hzz
  obtain ⟨hz0, hz1, hz2⟩ := hzz
  obtain ⟨v1, w1, hrun, hown, hg, _⟩ := Lib.run_append_own_string (P := Tryd.prog) W w.heap.size 72 9 o.type 5 i0 Tryd.underlying72 Tryd.underlying9 hi hz0 hz1 hz2 v (nb l).length (nums .u8 (nb l)) H.own t (by rw [nb_len]; unfold maxLen; omega) (by rw [nb_len]; omega) H.below.size
  have e : nums .u8 (nb (l ++ t.data.toList)) = nums .u8 (nb l) ++ Lib.strCells t := by
    rw [← nb_app, nums_append]
    congr 1
    simp [nums, bytesOf, Lib.strCells]
  have e2 : (nb (l ++ t.data.toList)).length = (nb l).length + t.size := by rw [nb_len, nb_len, List.length_append, size_list]
  have hA : Ap w w1 v1 (l ++ t.data.toList) cs := by
    refine ⟨by rw [e, e2]; exact hown, H.below.grown hg H.below.size (own_base H.own), (hg.block _ (blk_lt H.box) (fun e => ?_)).trans H.box⟩
    obtain ⟨cells, hc⟩ := own_typed H.own _ e.symm
    rw [H.box] at hc
    injection hc with hc
    injection hc with _ hc
    exact absurd hc (by decide)
  rw [if_pos hw]
  unfold Oper.wp execOp
  simp only [ho, resolve, invoke, builtin, Sem.run_bind, Sem.run_pure, Result.andThen_ok, List.map_toArray, List.map_cons, List.map_nil, hs, hx, hrun]
  exact h v1 w1 hA
end
set_option maxRecDepth 100000 in
set_option maxHeartbeats 1000000 in
theorem no (id lo hi gen : Int) (A : Option Addr) (c : Nat) (ds : List SD) (A2 : Option Addr) (c2 : Nat) (es : List SE) (w : World) (hC : Kd.C k58 w A ds.length ds) (hc : ds.length ≤ c) (hC2 : Kd.C k60 w A2 es.length es) (hc2 : es.length ≤ c2) (hn : es.length < 4611686018427) (hg : gdE id gen es = false) :
    Calls Tryd.prog 17 #[.agg #[.int .i64 id, .int .u64 lo, .int .u64 hi, .slice A ds.length c, .int .i64 gen, .slice A2 es.length c2]] w fun e w' => e = .returned (.tuple #[.string (⟨#[]⟩ : ByteArray), .int .i64 2]) ∧ Below w.heap.size w w' := by
  obtain ⟨K, hK⟩ : ∃ K : Nat, 13000000000000 ≤ K := ⟨_, Nat.le_refl _⟩
  have HG : Aside0 (strataref12_deltaMay.f K id lo hi ds gen es = some false) := ⟨by rw [mayE_f id lo hi gen ds es (by omega) K (by omega), hg]⟩
  clear hK
  have HC := Aside0.mk hC
  have HC2 := Aside0.mk hC2
  clear hC hC2 hg
  go_enter Tryd.func17, Tryd.ntmps17
  go_wp2_with fail
  refine (strataref12_deltaMay.calls _ id lo hi A c ds gen A2 c2 es false _ (Kd.C_alloc HC.out _) hc (Kd.C_alloc HC2.out _) hc2 HG.out).mono ?_
  rintro e w1 ⟨rfl, hb1⟩
  have HB1 := Aside0.mk (below_then (below_alloc (Below.refl w.heap.size w) (.cells #[.int .i64 id, .int .u64 lo, .int .u64 hi, .slice A ds.length c, .int .i64 gen, .slice A2 es.length c2] 46)) (by simp) hb1)
  clear hb1
  go_wp2
  go_ret2
  exact ⟨rfl, HB1.out⟩
set_option maxRecDepth 100000 in
set_option maxHeartbeats 8000000 in
theorem yes (id lo hi gen : Int) (A : Option Addr) (c : Nat) (ds : List SD) (A2 : Option Addr) (c2 : Nat) (es : List SE) (w : World) (hC : Kd.C k58 w A ds.length ds) (hc : ds.length ≤ c) (hC2 : Kd.C k60 w A2 es.length es) (hc2 : es.length ≤ c2) (hg : gdE id gen es = true) :
    Calls Tryd.prog 17 #[.agg #[.int .i64 id, .int .u64 lo, .int .u64 hi, .slice A ds.length c, .int .i64 gen, .slice A2 es.length c2]] w fun e w' => e = .returned (.tuple #[.string (fileOf ltE (byE id gen es)), .int .i64 0]) ∧ Below w.heap.size w w' := by
  obtain ⟨⟨g1, g2, g3, g4, g5, g7⟩, g6⟩ := gdE_parts hg
  obtain ⟨K, hK⟩ : ∃ K : Nat, 13000000000000 ≤ K := ⟨_, Nat.le_refl _⟩
  have HG : Aside0 (strataref12_deltaMay.f K id lo hi ds gen es = some true) := ⟨by rw [mayE_f id lo hi gen ds es (by omega) K (by omega), hg]⟩
  clear hK
  have HC := Aside0.mk hC
  have HC2 := Aside0.mk hC2
  have HO := Aside0.mk (okE_nonneg es 0 (Int.le_refl 0) g6)
  have HY : Aside0 (byE id gen es = (([] ++ ub id) ++ ub gen) ++ ub es.length ++ ens wrE nxE 0 es) := ⟨by unfold byE; simp only [List.append_assoc, List.nil_append]⟩
  have u1 := ub_len id
  have u2 := ub_len gen
  have u3 := ub_len (es.length : Int)
  have U1 : Aside0 (strataref01_Uvarint.f id = some (uvb id.toNat)) := ⟨uv_f ⟨by omega, by omega⟩⟩
  have U2 : Aside0 (strataref01_Uvarint.f gen = some (uvb gen.toNat)) := ⟨uv_f ⟨by omega, by omega⟩⟩
  have U3 : Aside0 (strataref01_Uvarint.f (es.length : Int) = some (uvb ((es.length : Int)).toNat)) := ⟨uv_f ⟨by omega, by omega⟩⟩
  have z1 := uvb_size id.toNat
  have z2 := uvb_size gen.toNat
  have z3 := uvb_size ((es.length : Int)).toNat
  rw [show ub id = (uvb id.toNat).data.toList from rfl, show ub gen = (uvb gen.toNat).data.toList from rfl, show ub (es.length : Int) = (uvb ((es.length : Int)).toNat).data.toList from rfl] at HY
  generalize uvb id.toNat = t1 at U1 z1 HY
  generalize uvb gen.toNat = t2 at U2 z2 HY
  generalize uvb ((es.length : Int)).toNat = t3 at U3 z3 HY
  clear u1 u2 u3
  clear hC hC2 hg g6
  go_enter Tryd.func17, Tryd.ntmps17
  go_wp2_with fail
  refine (strataref12_deltaMay.calls _ id lo hi A c ds gen A2 c2 es true _ (Kd.C_alloc HC.out _) hc (Kd.C_alloc HC2.out _) hc2 HG.out).mono ?_
  rintro e w1 ⟨rfl, hb1⟩
  have HA : Aside0 (Ap w w1 (.slice none 0 0) [] #[.int .i64 id, .int .u64 lo, .int .u64 hi, .slice A ds.length c, .int .i64 gen, .slice A2 es.length c2]) := ⟨⟨Kd.own_of_R (enc := Value.int .u8) (h1 := fun _ => rfl) (Kd.R_nil _ _ _ _ (fun _ => True)),
    below_then (below_alloc (Below.refl w.heap.size w) (.cells #[.int .i64 id, .int .u64 lo, .int .u64 hi, .slice A ds.length c, .int .i64 gen, .slice A2 es.length c2] 46)) (by simp) hb1, (hb1.block _ (blk_lt (heap_alloc_new _ _))).trans (heap_alloc_new w (.cells #[.int .i64 id, .int .u64 lo, .int .u64 hi, .slice A ds.length c, .int .i64 gen, .slice A2 es.length c2] 46))⟩⟩
  clear hb1 HG
  obtain ⟨x0, x4, x5⟩ : w1.cell? ⟨w.heap.size, 0, none⟩ = some (.int .i64 id) ∧ w1.cell? ⟨w.heap.size, 4, none⟩ = some (.int .i64 gen) ∧ w1.cell? ⟨w.heap.size, 5, none⟩ = some (.slice A2 es.length c2) := ⟨(blk_cell HA.out.box 0).trans rfl, (blk_cell HA.out.box 4).trans rfl, (blk_cell HA.out.box 5).trans rfl⟩
  go_wp2_with (first
    | (go_at_call 35; (with_reducible refine (strataref01_Uvarint.calls _ _ _ U1.out).mono ?_); rintro e w2 ⟨rfl, hb⟩; have HA := Aside0.mk (HA.out.step hb); clear hb x0 x4 x5)
    | ((with_reducible refine gate_builtin (b := .append) (xs := #[.tmp 10, .tmp 14]) rfl ?_); go_loud (at_builtin; refine wp_app rfl (.tmp 10) (.tmp 14) rfl _ [] t1 _ rfl rfl HA.out (by rw [List.length_nil]; omega) ?_; intro v2 w3 ha; have HA := Aside0.mk ha; clear ha; obtain ⟨x0, x4, x5⟩ : w3.cell? ⟨w.heap.size, 0, none⟩ = some (.int .i64 id) ∧ w3.cell? ⟨w.heap.size, 4, none⟩ = some (.int .i64 gen) ∧ w3.cell? ⟨w.heap.size, 5, none⟩ = some (.slice A2 es.length c2) := ⟨(blk_cell HA.out.box 0).trans rfl, (blk_cell HA.out.box 4).trans rfl, (blk_cell HA.out.box 5).trans rfl⟩)))
  go_wp2_with (first
    | (go_at_call 35; (with_reducible refine (strataref01_Uvarint.calls _ _ _ U2.out).mono ?_); rintro e w4 ⟨rfl, hb⟩; have HA := Aside0.mk (HA.out.step hb); clear hb x0 x4 x5)
    | ((with_reducible refine gate_builtin (b := .append) (xs := #[.tmp 16, .tmp 20]) rfl ?_); go_loud (at_builtin; refine wp_app rfl (.tmp 16) (.tmp 20) rfl _ ([] ++ t1.data.toList) t2 _ rfl rfl HA.out (by rw [List.nil_append, size_list]; omega) ?_; intro v4 w5 ha; have HA := Aside0.mk ha; clear ha; obtain ⟨x0, x4, x5⟩ : w5.cell? ⟨w.heap.size, 0, none⟩ = some (.int .i64 id) ∧ w5.cell? ⟨w.heap.size, 4, none⟩ = some (.int .i64 gen) ∧ w5.cell? ⟨w.heap.size, 5, none⟩ = some (.slice A2 es.length c2) := ⟨(blk_cell HA.out.box 0).trans rfl, (blk_cell HA.out.box 4).trans rfl, (blk_cell HA.out.box 5).trans rfl⟩)))
  go_wp2_with (first
    | (go_at_call 35; (with_reducible refine (strataref01_Uvarint.calls _ _ _ U3.out).mono ?_); rintro e w6 ⟨rfl, hb⟩; have HA := Aside0.mk (HA.out.step hb); clear hb x0 x4 x5)
    | ((with_reducible refine gate_builtin (b := .append) (xs := #[.tmp 22, .tmp 27]) rfl ?_); go_loud (at_builtin; refine wp_app rfl (.tmp 22) (.tmp 27) rfl _ ([] ++ t1.data.toList ++ t2.data.toList) t3 _ rfl rfl HA.out (by rw [List.nil_append, List.length_append, size_list, size_list]; omega) ?_; intro v6 w7 ha; have HA := Aside0.mk ha; clear ha; obtain ⟨x0, x4, x5⟩ : w7.cell? ⟨w.heap.size, 0, none⟩ = some (.int .i64 id) ∧ w7.cell? ⟨w.heap.size, 4, none⟩ = some (.int .i64 gen) ∧ w7.cell? ⟨w.heap.size, 5, none⟩ = some (.slice A2 es.length c2) := ⟨(blk_cell HA.out.box 0).trans rfl, (blk_cell HA.out.box 4).trans rfl, (blk_cell HA.out.box 5).trans rfl⟩)))
  obtain ⟨l0, hl0⟩ : ∃ l0, l0 = ([] ++ t1.data.toList ++ t2.data.toList) ++ t3.data.toList := ⟨_, rfl⟩
  have hl1 : l0.length ≤ 40 := by rw [hl0]; simp only [List.length_append, List.length_nil, size_list]; omega
  rw [← hl0] at HA HY
  clear hl0 x0 x4 x5 z1 z2 z3 U1 U2 U3
  have HL := Aside0.mk hl1
  clear hl1
  have x5 : w7.cell? ⟨w.heap.size, 5, none⟩ = some (.slice A2 es.length c2) := (blk_cell HA.out.box 5).trans rfl
  clear x5
  go_loopw [4, 5, 6] (fun v4 v5 v6 wr => ∃ k : Nat, k ≤ es.length ∧ v6 = .int .i64 (k : Int) ∧ v5 = .int .u64 (lst nxE 0 (es.take k)) ∧ Aside0 (Ap w wr v4 (l0 ++ ens wrE nxE 0 (es.take k)) #[.int .i64 id, .int .u64 lo, .int .u64 hi, .slice A ds.length c, .int .i64 gen, .slice A2 es.length c2])) (fun _ _ v6 _ => es.length - (intOf v6).toNat)
  case atStart => exact ⟨0, by omega, rfl, rfl, ⟨by rw [List.take_zero, show ens wrE nxE 0 [] = [] from rfl, List.append_nil]; exact HA.out⟩⟩
  case round =>
    clear HA
    obtain ⟨k, hk, rfl, rfl, HA⟩ := hrel
    rename_i v4
    by_cases hlt : k < es.length
    · have hget : rd_T60 es (k : Int) = es[k] := by unfold rd_T60; rw [Int.toNat_natCast, List.getD_eq_getElem?_getD, List.getElem?_eq_getElem hlt, Option.getD_some]
      obtain ⟨hokt, hok, hnx⟩ := oks_take HO.out k hlt
      have hlen := ens_len (wr := wrE) (fun st x h => wrE_len h.2) _ _ hokt
      rw [List.length_take] at hlen
      have hstep : ens wrE nxE 0 (es.take (k + 1)) = ens wrE nxE 0 (es.take k) ++ wrE (lst nxE 0 (es.take k)) es[k] := by rw [List.take_succ_eq_append_getElem hlt, ens_snoc]
      have hl9 : l0.length + (ens wrE nxE 0 (es.take k)).length ≤ 40 + 710 * 65536 := by have := HL.out; omega
      have HP := Aside0.mk hstep
      have HN := Aside0.mk hnx
      have HGet := Aside0.mk hget
      have HCr := Kd.C_below HC2.out HA.out.below
      obtain ⟨ad, eA, y0, y1, y2⟩ := at_T60 HCr (k : Int) (by omega) (by omega)
      subst eA
      simp only [Int.toNat_natCast] at y0 y1 y2
      rw [hget] at y0 y1 y2
      generalize ens wrE nxE 0 (es.take k) = pre at HA hl9 HP
      generalize lst nxE 0 (es.take k) = st at hok HP ⊢
      clear hnx hstep hlen hokt HCr hget
      obtain ⟨hst, o1, o2, o3, o4, o5⟩ := hok
      have V1 : Aside0 (strataref01_Uvarint.f (es[k].f0 - st) = some (uvb (es[k].f0 - st).toNat)) := ⟨uv_f ⟨by omega, by omega⟩⟩
      have V2 : Aside0 (strataref01_Uvarint.f (es[k].f1 - es[k].f0) = some (uvb (es[k].f1 - es[k].f0).toNat)) := ⟨uv_f ⟨by omega, by omega⟩⟩
      have V3 : Aside0 (strataref12_blob.f es[k].f2 = some (uvb es[k].f2.size ++ es[k].f2)) := ⟨bl_f (by omega)⟩
      have z1 := uvb_size (es[k].f0 - st).toNat
      have z2 := uvb_size (es[k].f1 - es[k].f0).toNat
      have z3 := bl_size es[k].f2
      have HW : Aside0 (wrE st es[k] = (uvb (es[k].f0 - st).toNat).data.toList ++ ((uvb (es[k].f1 - es[k].f0).toNat).data.toList ++ (uvb es[k].f2.size ++ es[k].f2).data.toList)) := ⟨by unfold wrE ub; rw [bl_list]⟩
      generalize uvb (es[k].f0 - st).toNat = t1 at V1 z1 HW
      generalize uvb (es[k].f1 - es[k].f0).toNat = t2 at V2 z2 HW
      generalize uvb es[k].f2.size ++ es[k].f2 = t3 at V3 z3 HW
      generalize hx : es[k] = x at *
      have x5 : wr.cell? ⟨w.heap.size, 5, none⟩ = some (.slice (some ad) es.length c2) := (blk_cell HA.out.box 5).trans rfl
      have HX := Aside0.mk hx
      clear hx
      go_upto_region 12 with (first
        | (go_at_call 35; (with_reducible refine (strataref01_Uvarint.calls _ _ _ V1.out).mono ?_); rintro e k2 ⟨rfl, hb⟩; have HA := Aside0.mk (HA.out.step hb); clear hb)
        | ((with_reducible refine gate_builtin (b := .append) (xs := #[.tmp 36, .tmp 45]) rfl ?_); go_loud (at_builtin; refine wp_app rfl (.tmp 36) (.tmp 45) rfl _ (l0 ++ pre) t1 _ rfl rfl HA.out (by simp only [List.length_append]; omega) ?_; intro v1 k3 ha; have HA := Aside0.mk ha; clear ha; clear x5 y0 y1 y2)))
      obtain ⟨ad', eA, y0, y1, y2⟩ := at_T60 (Kd.C_below HC2.out HA.out.below) (k : Int) (by omega) (by omega)
      obtain rfl := Option.some.inj eA
      simp only [Int.toNat_natCast] at y0 y1 y2
      rw [HGet.out] at y0 y1 y2
      have x5 : k3.cell? ⟨w.heap.size, 5, none⟩ = some (.slice (some ad) es.length c2) := (blk_cell HA.out.box 5).trans rfl
      have hw1 : IntKind.u64.wrap (x.f1 - x.f0) = x.f1 - x.f0 := wu64 (by omega) (by omega)
      go_cut [4] (fun v4 wx => Aside0 (Ap w wx v4 (l0 ++ pre ++ t1.data.toList ++ t2.data.toList) #[.int .i64 id, .int .u64 lo, .int .u64 hi, .slice A ds.length c, .int .i64 gen, .slice (some ad) es.length c2]))
      case first =>
        go_region_held3 (fun w' => w'.cell? ⟨w.heap.size, 5, none⟩ = some (.slice (some ad) es.length c2) ∧ w'.cell? (ad.add (k * 3)) = some (.int .u64 x.f0) ∧ w'.cell? ⟨(ad.add (k * 3)).block, (ad.add (k * 3)).off + 1, none⟩ = some (.int .u64 x.f1))
          (first | exact ⟨x5, y0, y1⟩)
          (first
            | (go_at_call 35; (with_reducible refine (strataref01_Uvarint.calls _ _ _ V2.out).mono ?_); rintro e k5 ⟨rfl, hb⟩; have HA := Aside0.mk (HA.out.step (below_then (below_drew (Below.refl _ _)) (Nat.le_refl _) hb)); clear hb x5 y0 y1 y2; obtain ⟨ad', eA, y0, y1, y2⟩ := at_T60 (Kd.C_below HC2.out HA.out.below) (k : Int) (by omega) (by omega); obtain rfl := Option.some.inj eA; simp only [Int.toNat_natCast] at y0 y1 y2; rw [HGet.out] at y0 y1 y2; have x5 : _ = some (Value.slice (some ad) es.length c2) := (blk_cell HA.out.box 5).trans rfl)
            | (go_loud (refine wp_app_step (by simp [Region.wanted]) (.tmp 47) (.tmp 61) rfl _ (l0 ++ pre ++ t1.data.toList) t2 _ rfl rfl HA.out (by simp only [List.length_append, size_list]; omega) ?_; intro v2 k6 ha; have HA := Aside0.mk ha; clear ha x5 y0 y1 y2; obtain ⟨ad', eA, y0, y1, y2⟩ := at_T60 (Kd.C_below HC2.out HA.out.below) (k : Int) (by omega) (by omega); obtain rfl := Option.some.inj eA; simp only [Int.toNat_natCast] at y0 y1 y2; rw [HGet.out] at y0 y1 y2; have x5 : _ = some (Value.slice (some ad) es.length c2) := (blk_cell HA.out.box 5).trans rfl)))
        all_goals (go_wp2_with fail; go_meet; case rel => exact HA)
      have HA := hcut
      clear hcut x5 y0 y1 y2 hw1
      obtain ⟨k6, rfl⟩ : ∃ q, q = wc := ⟨_, rfl⟩
      obtain ⟨ad', eA, y0, y1, y2⟩ := at_T60 (Kd.C_below HC2.out HA.out.below) (k : Int) (by omega) (by omega)
      obtain rfl := Option.some.inj eA
      simp only [Int.toNat_natCast] at y0 y1 y2
      rw [HGet.out] at y0 y1 y2
      have x5 : k6.cell? ⟨w.heap.size, 5, none⟩ = some (.slice (some ad) es.length c2) := (blk_cell HA.out.box 5).trans rfl
      go_wp2_with (first
        | (go_at_call 50; (with_reducible refine (strataref12_blob.calls _ _ _ V3.out).mono ?_); rintro e k7 ⟨rfl, hb⟩; have HA := Aside0.mk (HA.out.step hb); clear hb)
        | ((with_reducible refine gate_builtin (b := .append) (xs := #[.tmp 63, .tmp 70]) rfl ?_); go_loud (at_builtin; refine wp_app rfl (.tmp 63) (.tmp 70) rfl _ (l0 ++ pre ++ t1.data.toList ++ t2.data.toList) t3 _ rfl rfl HA.out (by simp only [List.length_append, size_list]; omega) ?_; intro v3 k8 ha; have HA := Aside0.mk ha; clear ha; clear x5 y0 y1 y2; obtain ⟨ad', eA, y0, y1, y2⟩ := at_T60 (Kd.C_below HC2.out HA.out.below) (k : Int) (by omega) (by omega); obtain rfl := Option.some.inj eA; simp only [Int.toNat_natCast] at y0 y1 y2; rw [HGet.out] at y0 y1 y2; have x5 : k8.cell? ⟨w.heap.size, 5, none⟩ = some (.slice (some ad) es.length c2) := (blk_cell HA.out.box 5).trans rfl)))
      go_roundw
      case rel => exact ⟨k + 1, by omega, by go_num, by rw [HN.out]; rfl, ⟨by rw [HP.out, HW.out]; have h := HA.out; simp only [List.append_assoc] at h ⊢; exact h⟩⟩
      case measure => simp [intOf]; omega
    · obtain rfl : k = es.length := by omega
      rw [List.take_length] at HA ⊢
      have hlen := ens_len (wr := wrE) (fun st x h => wrE_len h.2) _ _ HO.out
      rw [← HY.out] at HA
      have hl8 : (byE id gen es).length ≤ 100000000 := by rw [HY.out, List.length_append]; have := HL.out; omega
      obtain ⟨K, hK⟩ : ∃ K : Nat, 2000000000 ≤ K := ⟨_, Nat.le_refl _⟩
      have HSl : Aside0 (strataref12_sealed.f K ltE (nb (byE id gen es)) = some (fileOf ltE (byE id gen es))) := ⟨seal_f ltE _ rfl hl8 K hK⟩
      obtain ⟨A', c', rfl, hc', hC'⟩ := Kd.R_reads (Kd.R_of_own (enc := Value.int .u8) (h1 := fun _ => rfl) (ok := fun _ => True) HA.out.own (fun _ _ => trivial))
      have HC' := Aside0.mk hC'
      have HCc := Aside0.mk hc'
      clear hlen hl8 hK hC' hc'
      have x5 : wr.cell? ⟨w.heap.size, 5, none⟩ = some (.slice A2 es.length c2) := (blk_cell HA.out.box 5).trans rfl
      go_wp2_with fail
      refine (strataref12_sealed.calls K ltE A' c' (nb (byE id gen es)) (fileOf ltE (byE id gen es)) _ HC'.out HCc.out HSl.out).mono ?_
      rintro e w9 ⟨rfl, hb9⟩
      have HB9 := Aside0.mk (below_then HA.out.below HA.out.below.size hb9)
      clear hb9 x5
      go_wp2
      go_ret2
      exact ⟨rfl, HB9.out⟩
end Go.Proofs.YtejjidggnnhgjaaDoor.HImEr
/- DecodeDelta of layer 12, by the document: read loosely, and laid down again. -/
set_option linter.unusedVariables false
set_option linter.unusedSimpArgs false
namespace Go.Proofs.YtejjidggnnhgjaaDoor.HImSe
open Go.RowKit Go.Proofs.YtejjidggnnhgjaaDoor.PImg Go.Proofs.YtejjidggnnhgjaaDoor.HBase Go.Proofs.YtejjidggnnhgjaaDoor.HBlob Go.Proofs.YtejjidggnnhgjaaDoor.HCk Go.Proofs.YtejjidggnnhgjaaDoor.HImgR Go.Proofs.YtejjidggnnhgjaaDoor.HImgO Go.Proofs.YtejjidggnnhgjaaDoor.HImP Go.Proofs.YtejjidggnnhgjaaDoor.HImD Go.Proofs.YtejjidggnnhgjaaDoor.HImE Go.Proofs.YtejjidggnnhgjaaDoor.HImF Go.Proofs.YtejjidggnnhgjaaDoor.HImK Go.Proofs.YtejjidggnnhgjaaDoor.HImKe Go.Proofs.YtejjidggnnhgjaaDoor.HImS Go.Proofs.YtejjidggnnhgjaaDoor.HImS2 Go.Proofs.YtejjidggnnhgjaaDoorW.PrintWords Go.Proofs.YtejjidggnnhgjaaDoorW.PrintLast Go.Proofs.YtejjidggnnhgjaaDoorW.PrintMore Go.Proofs.YtejjidggnnhgjaaDoor.HCore
set_option maxRecDepth 100000 in
set_option maxHeartbeats 16000000 in
theorem dec_any (b : ByteArray) (w : World) (hb : b.size ≤ 1048576) :
    Calls Tryd.prog 21 #[.string b] w fun e w' => ∃ u, e = .returned (.tuple #[.agg (HImCe.cells (HImDe.val b) u), .int .i64 (HImDe.code b)]) ∧ Kd.R k60 60 w' w.heap.size (fun _ => True) u (HImDe.val b).2.2 ∧ Below w.heap.size w w' := by
  have hw1 := heap_alloc_new w (.cells #[.int .i64 0, .int .u64 0, .int .u64 0, .slice none 0 0, .int .i64 0, .slice none 0 0] 46)
  have H1 := Aside0.mk hw1
  clear hw1
  by_cases ho : opn b ltE = 0
  case neg =>
    have HV := Aside0.mk (HImDe.out_val ho)
    have HO0 := Aside0.mk ho
    clear ho
    go_enter Tryd.func21, Tryd.ntmps21
    go_wp2_with fail
    refine (opened_any b ltE _ (by omega) rfl).mono ?_
    rintro e w4 ⟨hb2, hop⟩
    rw [if_neg HO0.out] at hop
    subst hop
    have HR1 := Aside0.mk ((hb2.block _ (blk_lt H1.out)).trans H1.out)
    have HB := Aside0.mk (below_then (below_alloc (Below.refl w.heap.size w) (.cells #[.int .i64 0, .int .u64 0, .int .u64 0, .slice none 0 0, .int .i64 0, .slice none 0 0] 46)) (by simp) hb2)
    have hk : (opn b ltE == 0) = false := beq_eq_false_iff_ne.2 HO0.out
    generalize opn b ltE = cd at hk HV ⊢
    clear hb2 HO0
    have d0 : _ = some (Value.int .i64 0) := (blk_cell HR1.out 0).trans rfl
    have d1 : _ = some (Value.int .u64 0) := (blk_cell HR1.out 1).trans rfl
    have d2 : _ = some (Value.int .u64 0) := (blk_cell HR1.out 2).trans rfl
    have d3 : _ = some (Value.slice none 0 0) := (blk_cell HR1.out 3).trans rfl
    have d4 : _ = some (Value.int .i64 0) := (blk_cell HR1.out 4).trans rfl
    have d5 : _ = some (Value.slice none 0 0) := (blk_cell HR1.out 5).trans rfl
    have f0 := blk_frozen HR1.out 0
    have f1 := blk_frozen HR1.out 1
    have f2 := blk_frozen HR1.out 2
    have f3 := blk_frozen HR1.out 3
    have f4 := blk_frozen HR1.out 4
    have f5 := blk_frozen HR1.out 5
    go_wp2_with fail
    refine bodyPost_ret (v := .tuple #[.agg #[.int .i64 0, .int .u64 0, .int .u64 0, .slice none 0 0, .int .i64 0, .slice none 0 0], .int .i64 cd]) (results_ct (fn := Tryd.f21) rfl _ _ w.heap.size 46 #[.int .i64 0, .int .u64 0, .int .u64 0, .slice none 0 0, .int .i64 0, .slice none 0 0] (0, 0) _ rfl (by exact (blk_set ((blk_set ((blk_set ((blk_set ((blk_set ((blk_set HR1.out 0 (.int .i64 0)).trans rfl) 1 (.int .u64 0)).trans rfl) 2 (.int .u64 0)).trans rfl) 3 (.slice none 0 0)).trans rfl) 4 (.int .i64 0)).trans rfl) 5 (.slice none 0 0)).trans rfl) Tryd.underlying46 rfl (by kernel_rfl)) rfl ?_
    refine ⟨_, by rw [HV.out.1, HV.out.2]; rfl, ?_, ((((((HB.out.setCell (p := ⟨w.heap.size, 0, none⟩) (Nat.le_refl _) _).setCell (p := ⟨w.heap.size, 1, none⟩) (Nat.le_refl _) _).setCell (p := ⟨w.heap.size, 2, none⟩) (Nat.le_refl _) _).setCell (p := ⟨w.heap.size, 3, none⟩) (Nat.le_refl _) _).setCell (p := ⟨w.heap.size, 4, none⟩) (Nat.le_refl _) _).setCell (p := ⟨w.heap.size, 5, none⟩) (Nat.le_refl _) _)⟩
    rw [HV.out.1]
    exact Kd.R_nil _ _ _ _ _
  have HO0 := Aside0.mk ho
  have hs : (ins b).size ≤ 1048576 := by unfold ins; rw [← size_list, extract_list, extract_list, List.length_take, List.length_drop, List.length_take, List.drop_zero, size_list]; omega
  obtain ⟨s, hse⟩ : ∃ s, s = ins b := ⟨_, rfl⟩
  rw [← hse] at hs
  have hs2 : s.size ≤ 4611686018427387904 := by omega
  have HSE := Aside0.mk hse
  have HS := Aside0.mk hs2
  clear hse ho hs2
  have hld : ldE s = _ := rfl
  conv at hld => rhs; unfold ldE
  simp only at hld
  have HLD := Aside0.mk hld
  clear hld
  go_enter Tryd.func21, Tryd.ntmps21
  go_wp2_with fail
  refine (opened_any b ltE _ (by omega) rfl).mono ?_
  rintro e w2 ⟨hb2, hop⟩
  rw [if_pos HO0.out, ← HSE.out] at hop
  obtain ⟨gb, rfl, hcur⟩ := hop
  have HR1 := Aside0.mk ((hb2.block _ (blk_lt H1.out)).trans H1.out)
  have HB := Aside0.mk (below_then (below_alloc (Below.refl w.heap.size w) (.cells #[.int .i64 0, .int .u64 0, .int .u64 0, .slice none 0 0, .int .i64 0, .slice none 0 0] 46)) (by simp) hb2)
  have hgb : w.heap.size < gb := by have := hcur.2; simp at this; omega
  have HC : Aside0 (Cu w w2 gb s (0, false)) := ⟨⟨hcur.1, Nat.le_of_lt hgb⟩⟩
  clear hb2 hcur
  go_wp2_with fail
  obtain ⟨id, c_id, hr_id⟩ : ∃ x y, cs s (0, false) = (x, y) := ⟨_, _, rfl⟩
  have rg_id := cs_rng s (0, false)
  rw [hr_id] at rg_id
  obtain ⟨id_0, id_1, id_a⟩ := rg_id
  simp only at id_0 id_1
  refine (small_any gb s (0, false) w _ HS.out HC.out HB.out).mono ?_
  rw [hr_id]
  rintro e w3 ⟨rfl, hI, hB, hK⟩
  have hr3 : w3.heap[w.heap.size]? = some (.cells #[.int .i64 0, .int .u64 0, .int .u64 0, .slice none 0 0, .int .i64 0, .slice none 0 0] 46 (0, 0)) := (hK.2 _ (blk_lt HR1.out) (by omega) (by simp)).trans HR1.out
  have hg3 : gb < w3.heap.size := blk_lt hI.1
  have HT : Aside0 (Lo k60 60 46 #[.int .i64 0, .int .u64 0, .int .u64 0, .slice none 0 0, .int .i64 0, .slice none 0 0] w w3.heap.size gb gb s c_id #[.int .i64 id, .int .u64 0, .int .u64 0, .slice none 0 0, .int .i64 0, .slice none 0 0] (.slice none 0 0) [] (w3.alloc (.cells #[.int .i64 id, .int .u64 0, .int .u64 0, .slice none 0 0, .int .i64 0, .slice none 0 0] 46))) := ⟨⟨below_alloc hB _, (heap_alloc_old _ _ (blk_lt hr3)).trans hr3, heap_alloc_new _ _, hI.alloc _, Kd.R_nil _ _ _ _ _, ⟨by omega, by omega, hgb⟩⟩⟩
  clear hI hB hK hr3 HR1 HB HC H1
  have c0 : _ = some (Value.int .i64 id) := (blk_cell HT.out.pair 0).trans rfl
  have c1 : _ = some (Value.int .u64 0) := (blk_cell HT.out.pair 1).trans rfl
  have c2 : _ = some (Value.int .u64 0) := (blk_cell HT.out.pair 2).trans rfl
  have c3 : _ = some (Value.slice none 0 0) := (blk_cell HT.out.pair 3).trans rfl
  have c4 : _ = some (Value.int .i64 0) := (blk_cell HT.out.pair 4).trans rfl
  have c5 : _ = some (Value.slice none 0 0) := (blk_cell HT.out.pair 5).trans rfl
  have g2 : _ = some (Value.bool _) := (blk_cell HT.out.cur.1 2).trans rfl
  go_wp2_with fail
  clear c0 c1 c2 c3 c4 c5 g2
  obtain ⟨pb, hpb⟩ : ∃ pb, pb = w3.heap.size := ⟨_, rfl⟩
  rw [← hpb] at HT ⊢
  clear hpb hg3
  obtain ⟨gen, c_gen, hr_gen⟩ : ∃ x y, cs s c_id = (x, y) := ⟨_, _, rfl⟩
  have rg_gen := cs_rng s c_id
  rw [hr_gen] at rg_gen
  obtain ⟨gen_0, gen_1, gen_a⟩ := rg_gen
  simp only at gen_0 gen_1
  refine (small_any gb s c_id w _ HS.out HT.out.cur HT.out.below).mono ?_
  rw [hr_gen]
  rintro e w13 ⟨rfl, hI, hB, hK⟩
  have HT := Aside0.mk (HT.out.reads (by decide) hI hB hK)
  have hK' := hK
  clear hI hB hK hK'
  have c0 : _ = some (Value.int .i64 id) := (blk_cell HT.out.pair 0).trans rfl
  have c1 : _ = some (Value.int .u64 0) := (blk_cell HT.out.pair 1).trans rfl
  have c2 : _ = some (Value.int .u64 0) := (blk_cell HT.out.pair 2).trans rfl
  have c3 : _ = some (Value.slice none 0 0) := (blk_cell HT.out.pair 3).trans rfl
  have c4 : _ = some (Value.int .i64 0) := (blk_cell HT.out.pair 4).trans rfl
  have c5 : _ = some (Value.slice none 0 0) := (blk_cell HT.out.pair 5).trans rfl
  have g2 : _ = some (Value.bool _) := (blk_cell HT.out.cur.1 2).trans rfl
  have ff := blk_frozen HT.out.pair 4
  have HT : Aside0 (Lo k60 60 46 #[.int .i64 0, .int .u64 0, .int .u64 0, .slice none 0 0, .int .i64 0, .slice none 0 0] w pb gb gb s c_gen #[.int .i64 id, .int .u64 0, .int .u64 0, .slice none 0 0, .int .i64 gen, .slice none 0 0] (.slice none 0 0) [] (w13.setCell ⟨pb, 4, none⟩ (.int .i64 gen))) := ⟨HT.out.put (by decide) 4 _⟩
  go_wp2_with fail
  clear c0 c1 c2 c3 c4 c5 g2
  clear ff
  obtain ⟨n, c_n, hr_n⟩ : ∃ x y, cs s c_gen = (x, y) := ⟨_, _, rfl⟩
  have rg_n := cs_rng s c_gen
  rw [hr_n] at rg_n
  obtain ⟨n_0, n_1, n_a⟩ := rg_n
  simp only at n_0 n_1
  refine (small_any gb s c_gen w _ HS.out HT.out.cur HT.out.below).mono ?_
  rw [hr_n]
  rintro e w14 ⟨rfl, hI, hB, hK⟩
  have HT := Aside0.mk (HT.out.reads (by decide) hI hB hK)
  clear hI hB hK
  obtain ⟨N, rfl⟩ := Int.eq_ofNat_of_zero_le n_0
  have hld := HLD.out
  simp only [hr_id, hr_gen, hr_n, Int.toNat_natCast] at hld
  clear HLD
  obtain ⟨LR, hLR⟩ : ∃ LR, LR = lr (lrE s) nxE N 0 c_n [] := ⟨_, rfl⟩
  rw [← hLR] at hld
  have HLD := Aside0.mk hld
  have HLR := Aside0.mk hLR.symm
  clear hld hLR hr_id hr_gen hr_n
  have c0 : _ = some (Value.int .i64 id) := (blk_cell HT.out.pair 0).trans rfl
  have c1 : _ = some (Value.int .u64 0) := (blk_cell HT.out.pair 1).trans rfl
  have c2 : _ = some (Value.int .u64 0) := (blk_cell HT.out.pair 2).trans rfl
  have c3 : _ = some (Value.slice none 0 0) := (blk_cell HT.out.pair 3).trans rfl
  have c4 : _ = some (Value.int .i64 gen) := (blk_cell HT.out.pair 4).trans rfl
  have c5 : _ = some (Value.slice none 0 0) := (blk_cell HT.out.pair 5).trans rfl
  have g2 : _ = some (Value.bool _) := (blk_cell HT.out.cur.1 2).trans rfl
  go_wp2
  clear c0 c1 c2 c3 c4 c5 g2
  have hpos : c_n.2 = false → 0 ≤ c_n.1 ∧ c_n.1 ≤ s.size := by
    intro h
    obtain ⟨q_n, p_n, e_n⟩ := n_a h
    obtain ⟨q_gen, p_gen, e_gen⟩ := gen_a q_n
    obtain ⟨q_id, p_id, e_id⟩ := id_a q_gen
    simp only at *
    omega
  clear id_a gen_a n_a
  go_loopw [8, 9] (fun v8 v9 wr => ∃ (i : Nat) (c : Int × Bool) (last : Int) (u : Value) (l : List SE), v9 = .int .i64 (i : Int) ∧ v8 = .int .u64 last ∧ (0 ≤ last ∧ last ≤ 18446744073709551615) ∧ i ≤ N ∧ l.length = i ∧ (c.2 = false → 0 ≤ c.1 ∧ (l.length : Int) ≤ c.1 ∧ c.1 ≤ s.size) ∧ l.length ≤ s.size + 1 ∧ Aside0 (Lo k60 60 46 #[.int .i64 0, .int .u64 0, .int .u64 0, .slice none 0 0, .int .i64 0, .slice none 0 0] w pb gb gb s c #[.int .i64 id, .int .u64 0, .int .u64 0, .slice none 0 0, .int .i64 gen, u] u l wr) ∧ Aside0 (lr (lrE s) nxE (N - i) last c l = LR)) (fun _ v9 _ => N - (intOf v9).toNat)
  case atStart => exact ⟨0, c_n, 0, _, [], rfl, rfl, by omega, by omega, rfl, fun h => by have := hpos h; rw [List.length_nil]; omega, by rw [List.length_nil]; omega, HT, HLR⟩
  case round =>
    clear HT HLR hpos
    obtain ⟨i, c, last, u, l, rfl, rfl, last_b, hiN, rfl, hc, hlz, HT, HLR⟩ := hrel
    cases hcb : c.2
    case true =>
      have hL : LR = (l, c) := by
        rw [← HLR.out]
        cases N - l.length with
        | zero => rfl
        | succ m => simp only [lr, hcb, if_true]
      have HL := Aside0.mk hL
      clear hL HLR
      have g2 : _ = some (Value.bool true) := (blk_cell HT.out.cur.1 2).trans (by rw [hcb]; rfl)
      by_cases hlt : l.length < N
      case pos =>
        have hld := HLD.out
        rw [HL.out, hcb] at hld
        have hldb : ldE (ins b) = ((id, gen, l), true) := by rw [← HSE.out]; exact hld
        have HLb := Aside0.mk hldb
        clear hld hldb HLD HL
        obtain ⟨A, cc, rfl, hcl, hC⟩ := Kd.R_reads HT.out.own
        have HCc := Aside0.mk hC
        clear hC
        have c0 : _ = some (Value.int .i64 id) := (blk_cell HT.out.pair 0).trans rfl
        have c1 : _ = some (Value.int .u64 0) := (blk_cell HT.out.pair 1).trans rfl
        have c2 : _ = some (Value.int .u64 0) := (blk_cell HT.out.pair 2).trans rfl
        have c3 : _ = some (Value.slice none 0 0) := (blk_cell HT.out.pair 3).trans rfl
        have c4 : _ = some (Value.int .i64 gen) := (blk_cell HT.out.pair 4).trans rfl
        have c5 : _ = some (Value.slice A l.length cc) := (blk_cell HT.out.pair 5).trans rfl
        go_wp2_with fail
        clear c0 c1 c2 c3 c4 c5
        obtain ⟨K, hK⟩ : ∃ K : Nat, 13000000000000 ≤ K := ⟨_, Nat.le_refl _⟩
        cases hgd : gdE id gen l
        case false =>
          refine (HImEr.no id 0 0 gen none 0 [] A cc l _ (Kd.C_nil _ _) (Nat.le_refl _) HCc.out hcl (by omega) hgd).mono ?_
          rintro e w40 ⟨rfl, hb⟩
          have HT := Aside0.mk (HT.out.step hb)
          clear hb HCc hK
          have g2 : _ = some (Value.bool true) := (blk_cell HT.out.cur.1 2).trans (by rw [hcb]; rfl)
          have HR1 := Aside0.mk HT.out.res
          have HB := Aside0.mk HT.out.below
          have HV := Aside0.mk (looseE_no HO0.out HLb.out (fun h => by have h2 := h.2.1; simp only [hgd] at h2; cases h2))
          clear HLb hgd
          have d0 : _ = some (Value.int .i64 0) := (blk_cell HR1.out 0).trans rfl
          have d1 : _ = some (Value.int .u64 0) := (blk_cell HR1.out 1).trans rfl
          have d2 : _ = some (Value.int .u64 0) := (blk_cell HR1.out 2).trans rfl
          have d3 : _ = some (Value.slice none 0 0) := (blk_cell HR1.out 3).trans rfl
          have d4 : _ = some (Value.int .i64 0) := (blk_cell HR1.out 4).trans rfl
          have d5 : _ = some (Value.slice none 0 0) := (blk_cell HR1.out 5).trans rfl
          have f0 := blk_frozen HR1.out 0
          have f1 := blk_frozen HR1.out 1
          have f2 := blk_frozen HR1.out 2
          have f3 := blk_frozen HR1.out 3
          have f4 := blk_frozen HR1.out 4
          have f5 := blk_frozen HR1.out 5
          go_wp2_with fail
          refine bodyPost_ret (v := .tuple #[.agg #[.int .i64 0, .int .u64 0, .int .u64 0, .slice none 0 0, .int .i64 0, .slice none 0 0], .int .i64 125]) (results_ct (fn := Tryd.f21) rfl _ _ w.heap.size 46 #[.int .i64 0, .int .u64 0, .int .u64 0, .slice none 0 0, .int .i64 0, .slice none 0 0] (0, 0) _ rfl (by exact (blk_set ((blk_set ((blk_set ((blk_set ((blk_set ((blk_set HR1.out 0 (.int .i64 0)).trans rfl) 1 (.int .u64 0)).trans rfl) 2 (.int .u64 0)).trans rfl) 3 (.slice none 0 0)).trans rfl) 4 (.int .i64 0)).trans rfl) 5 (.slice none 0 0)).trans rfl) Tryd.underlying46 rfl (by kernel_rfl)) rfl ?_
          refine ⟨_, by rw [HV.out.1, HV.out.2]; rfl, ?_, ((((((HB.out.setCell (p := ⟨w.heap.size, 0, none⟩) (Nat.le_refl _) _).setCell (p := ⟨w.heap.size, 1, none⟩) (Nat.le_refl _) _).setCell (p := ⟨w.heap.size, 2, none⟩) (Nat.le_refl _) _).setCell (p := ⟨w.heap.size, 3, none⟩) (Nat.le_refl _) _).setCell (p := ⟨w.heap.size, 4, none⟩) (Nat.le_refl _) _).setCell (p := ⟨w.heap.size, 5, none⟩) (Nat.le_refl _) _)⟩
          rw [HV.out.1]
          exact Kd.R_nil _ _ _ _ _
        case true =>
          refine (HImEr.yes id 0 0 gen none 0 [] A cc l _ (Kd.C_nil _ _) (Nat.le_refl _) HCc.out hcl hgd).mono ?_
          rintro e w40 ⟨rfl, hb⟩
          have HT := Aside0.mk (HT.out.step hb)
          clear hb HCc hK
          have g2 : _ = some (Value.bool true) := (blk_cell HT.out.cur.1 2).trans (by rw [hcb]; rfl)
          have HR1 := Aside0.mk HT.out.res
          have HB := Aside0.mk HT.out.below
          have HV := Aside0.mk (looseE_no HO0.out HLb.out (fun h => by cases h.1))
          clear HLb hgd
          generalize fileOf ltE (byE id gen l) = fo
          have d0 : _ = some (Value.int .i64 0) := (blk_cell HR1.out 0).trans rfl
          have d1 : _ = some (Value.int .u64 0) := (blk_cell HR1.out 1).trans rfl
          have d2 : _ = some (Value.int .u64 0) := (blk_cell HR1.out 2).trans rfl
          have d3 : _ = some (Value.slice none 0 0) := (blk_cell HR1.out 3).trans rfl
          have d4 : _ = some (Value.int .i64 0) := (blk_cell HR1.out 4).trans rfl
          have d5 : _ = some (Value.slice none 0 0) := (blk_cell HR1.out 5).trans rfl
          have f0 := blk_frozen HR1.out 0
          have f1 := blk_frozen HR1.out 1
          have f2 := blk_frozen HR1.out 2
          have f3 := blk_frozen HR1.out 3
          have f4 := blk_frozen HR1.out 4
          have f5 := blk_frozen HR1.out 5
          go_wp2_with fail
          refine bodyPost_ret (v := .tuple #[.agg #[.int .i64 0, .int .u64 0, .int .u64 0, .slice none 0 0, .int .i64 0, .slice none 0 0], .int .i64 125]) (results_ct (fn := Tryd.f21) rfl _ _ w.heap.size 46 #[.int .i64 0, .int .u64 0, .int .u64 0, .slice none 0 0, .int .i64 0, .slice none 0 0] (0, 0) _ rfl (by exact (blk_set ((blk_set ((blk_set ((blk_set ((blk_set ((blk_set HR1.out 0 (.int .i64 0)).trans rfl) 1 (.int .u64 0)).trans rfl) 2 (.int .u64 0)).trans rfl) 3 (.slice none 0 0)).trans rfl) 4 (.int .i64 0)).trans rfl) 5 (.slice none 0 0)).trans rfl) Tryd.underlying46 rfl (by kernel_rfl)) rfl ?_
          refine ⟨_, by rw [HV.out.1, HV.out.2]; rfl, ?_, ((((((HB.out.setCell (p := ⟨w.heap.size, 0, none⟩) (Nat.le_refl _) _).setCell (p := ⟨w.heap.size, 1, none⟩) (Nat.le_refl _) _).setCell (p := ⟨w.heap.size, 2, none⟩) (Nat.le_refl _) _).setCell (p := ⟨w.heap.size, 3, none⟩) (Nat.le_refl _) _).setCell (p := ⟨w.heap.size, 4, none⟩) (Nat.le_refl _) _).setCell (p := ⟨w.heap.size, 5, none⟩) (Nat.le_refl _) _)⟩
          rw [HV.out.1]
          exact Kd.R_nil _ _ _ _ _
      case neg =>
        have hld := HLD.out
        rw [HL.out, hcb] at hld
        have hldb : ldE (ins b) = ((id, gen, l), true) := by rw [← HSE.out]; exact hld
        have HLb := Aside0.mk hldb
        clear hld hldb HLD HL
        obtain ⟨A, cc, rfl, hcl, hC⟩ := Kd.R_reads HT.out.own
        have HCc := Aside0.mk hC
        clear hC
        have c0 : _ = some (Value.int .i64 id) := (blk_cell HT.out.pair 0).trans rfl
        have c1 : _ = some (Value.int .u64 0) := (blk_cell HT.out.pair 1).trans rfl
        have c2 : _ = some (Value.int .u64 0) := (blk_cell HT.out.pair 2).trans rfl
        have c3 : _ = some (Value.slice none 0 0) := (blk_cell HT.out.pair 3).trans rfl
        have c4 : _ = some (Value.int .i64 gen) := (blk_cell HT.out.pair 4).trans rfl
        have c5 : _ = some (Value.slice A l.length cc) := (blk_cell HT.out.pair 5).trans rfl
        go_wp2_with fail
        clear c0 c1 c2 c3 c4 c5
        obtain ⟨K, hK⟩ : ∃ K : Nat, 13000000000000 ≤ K := ⟨_, Nat.le_refl _⟩
        cases hgd : gdE id gen l
        case false =>
          refine (HImEr.no id 0 0 gen none 0 [] A cc l _ (Kd.C_nil _ _) (Nat.le_refl _) HCc.out hcl (by omega) hgd).mono ?_
          rintro e w40 ⟨rfl, hb⟩
          have HT := Aside0.mk (HT.out.step hb)
          clear hb HCc hK
          have g2 : _ = some (Value.bool true) := (blk_cell HT.out.cur.1 2).trans (by rw [hcb]; rfl)
          have HR1 := Aside0.mk HT.out.res
          have HB := Aside0.mk HT.out.below
          have HV := Aside0.mk (looseE_no HO0.out HLb.out (fun h => by have h2 := h.2.1; simp only [hgd] at h2; cases h2))
          clear HLb hgd
          have d0 : _ = some (Value.int .i64 0) := (blk_cell HR1.out 0).trans rfl
          have d1 : _ = some (Value.int .u64 0) := (blk_cell HR1.out 1).trans rfl
          have d2 : _ = some (Value.int .u64 0) := (blk_cell HR1.out 2).trans rfl
          have d3 : _ = some (Value.slice none 0 0) := (blk_cell HR1.out 3).trans rfl
          have d4 : _ = some (Value.int .i64 0) := (blk_cell HR1.out 4).trans rfl
          have d5 : _ = some (Value.slice none 0 0) := (blk_cell HR1.out 5).trans rfl
          have f0 := blk_frozen HR1.out 0
          have f1 := blk_frozen HR1.out 1
          have f2 := blk_frozen HR1.out 2
          have f3 := blk_frozen HR1.out 3
          have f4 := blk_frozen HR1.out 4
          have f5 := blk_frozen HR1.out 5
          go_wp2_with fail
          refine bodyPost_ret (v := .tuple #[.agg #[.int .i64 0, .int .u64 0, .int .u64 0, .slice none 0 0, .int .i64 0, .slice none 0 0], .int .i64 125]) (results_ct (fn := Tryd.f21) rfl _ _ w.heap.size 46 #[.int .i64 0, .int .u64 0, .int .u64 0, .slice none 0 0, .int .i64 0, .slice none 0 0] (0, 0) _ rfl (by exact (blk_set ((blk_set ((blk_set ((blk_set ((blk_set ((blk_set HR1.out 0 (.int .i64 0)).trans rfl) 1 (.int .u64 0)).trans rfl) 2 (.int .u64 0)).trans rfl) 3 (.slice none 0 0)).trans rfl) 4 (.int .i64 0)).trans rfl) 5 (.slice none 0 0)).trans rfl) Tryd.underlying46 rfl (by kernel_rfl)) rfl ?_
          refine ⟨_, by rw [HV.out.1, HV.out.2]; rfl, ?_, ((((((HB.out.setCell (p := ⟨w.heap.size, 0, none⟩) (Nat.le_refl _) _).setCell (p := ⟨w.heap.size, 1, none⟩) (Nat.le_refl _) _).setCell (p := ⟨w.heap.size, 2, none⟩) (Nat.le_refl _) _).setCell (p := ⟨w.heap.size, 3, none⟩) (Nat.le_refl _) _).setCell (p := ⟨w.heap.size, 4, none⟩) (Nat.le_refl _) _).setCell (p := ⟨w.heap.size, 5, none⟩) (Nat.le_refl _) _)⟩
          rw [HV.out.1]
          exact Kd.R_nil _ _ _ _ _
        case true =>
          refine (HImEr.yes id 0 0 gen none 0 [] A cc l _ (Kd.C_nil _ _) (Nat.le_refl _) HCc.out hcl hgd).mono ?_
          rintro e w40 ⟨rfl, hb⟩
          have HT := Aside0.mk (HT.out.step hb)
          clear hb HCc hK
          have g2 : _ = some (Value.bool true) := (blk_cell HT.out.cur.1 2).trans (by rw [hcb]; rfl)
          have HR1 := Aside0.mk HT.out.res
          have HB := Aside0.mk HT.out.below
          have HV := Aside0.mk (looseE_no HO0.out HLb.out (fun h => by cases h.1))
          clear HLb hgd
          generalize fileOf ltE (byE id gen l) = fo
          have d0 : _ = some (Value.int .i64 0) := (blk_cell HR1.out 0).trans rfl
          have d1 : _ = some (Value.int .u64 0) := (blk_cell HR1.out 1).trans rfl
          have d2 : _ = some (Value.int .u64 0) := (blk_cell HR1.out 2).trans rfl
          have d3 : _ = some (Value.slice none 0 0) := (blk_cell HR1.out 3).trans rfl
          have d4 : _ = some (Value.int .i64 0) := (blk_cell HR1.out 4).trans rfl
          have d5 : _ = some (Value.slice none 0 0) := (blk_cell HR1.out 5).trans rfl
          have f0 := blk_frozen HR1.out 0
          have f1 := blk_frozen HR1.out 1
          have f2 := blk_frozen HR1.out 2
          have f3 := blk_frozen HR1.out 3
          have f4 := blk_frozen HR1.out 4
          have f5 := blk_frozen HR1.out 5
          go_wp2_with fail
          refine bodyPost_ret (v := .tuple #[.agg #[.int .i64 0, .int .u64 0, .int .u64 0, .slice none 0 0, .int .i64 0, .slice none 0 0], .int .i64 125]) (results_ct (fn := Tryd.f21) rfl _ _ w.heap.size 46 #[.int .i64 0, .int .u64 0, .int .u64 0, .slice none 0 0, .int .i64 0, .slice none 0 0] (0, 0) _ rfl (by exact (blk_set ((blk_set ((blk_set ((blk_set ((blk_set ((blk_set HR1.out 0 (.int .i64 0)).trans rfl) 1 (.int .u64 0)).trans rfl) 2 (.int .u64 0)).trans rfl) 3 (.slice none 0 0)).trans rfl) 4 (.int .i64 0)).trans rfl) 5 (.slice none 0 0)).trans rfl) Tryd.underlying46 rfl (by kernel_rfl)) rfl ?_
          refine ⟨_, by rw [HV.out.1, HV.out.2]; rfl, ?_, ((((((HB.out.setCell (p := ⟨w.heap.size, 0, none⟩) (Nat.le_refl _) _).setCell (p := ⟨w.heap.size, 1, none⟩) (Nat.le_refl _) _).setCell (p := ⟨w.heap.size, 2, none⟩) (Nat.le_refl _) _).setCell (p := ⟨w.heap.size, 3, none⟩) (Nat.le_refl _) _).setCell (p := ⟨w.heap.size, 4, none⟩) (Nat.le_refl _) _).setCell (p := ⟨w.heap.size, 5, none⟩) (Nat.le_refl _) _)⟩
          rw [HV.out.1]
          exact Kd.R_nil _ _ _ _ _
    have g2 : _ = some (Value.bool false) := (blk_cell HT.out.cur.1 2).trans (by rw [hcb]; rfl)
    by_cases hlt : l.length < N
    case neg =>
      have hL : LR = (l, c) := by
        rw [← HLR.out, show N - l.length = 0 by omega]
        rfl
      have HL := Aside0.mk hL
      clear hL HLR
      have hld := HLD.out
      rw [HL.out, hcb] at hld
      have hldb : ldE (ins b) = ((id, gen, l), false) := by rw [← HSE.out]; exact hld
      have HLb := Aside0.mk hldb
      clear hld hldb HLD HL
      obtain ⟨A, cc, rfl, hcl, hC⟩ := Kd.R_reads HT.out.own
      have HCc := Aside0.mk hC
      clear hC
      have c0 : _ = some (Value.int .i64 id) := (blk_cell HT.out.pair 0).trans rfl
      have c1 : _ = some (Value.int .u64 0) := (blk_cell HT.out.pair 1).trans rfl
      have c2 : _ = some (Value.int .u64 0) := (blk_cell HT.out.pair 2).trans rfl
      have c3 : _ = some (Value.slice none 0 0) := (blk_cell HT.out.pair 3).trans rfl
      have c4 : _ = some (Value.int .i64 gen) := (blk_cell HT.out.pair 4).trans rfl
      have c5 : _ = some (Value.slice A l.length cc) := (blk_cell HT.out.pair 5).trans rfl
      go_wp2_with fail
      clear c0 c1 c2 c3 c4 c5
      obtain ⟨K, hK⟩ : ∃ K : Nat, 13000000000000 ≤ K := ⟨_, Nat.le_refl _⟩
      cases hgd : gdE id gen l
      case false =>
        refine (HImEr.no id 0 0 gen none 0 [] A cc l _ (Kd.C_nil _ _) (Nat.le_refl _) HCc.out hcl (by omega) hgd).mono ?_
        rintro e w40 ⟨rfl, hb⟩
        have HT := Aside0.mk (HT.out.step hb)
        clear hb HCc hK
        have g2 : _ = some (Value.bool false) := (blk_cell HT.out.cur.1 2).trans (by rw [hcb]; rfl)
        have HR1 := Aside0.mk HT.out.res
        have HB := Aside0.mk HT.out.below
        have HV := Aside0.mk (looseE_no HO0.out HLb.out (fun h => by have h2 := h.2.1; simp only [hgd] at h2; cases h2))
        clear HLb hgd
        have d0 : _ = some (Value.int .i64 0) := (blk_cell HR1.out 0).trans rfl
        have d1 : _ = some (Value.int .u64 0) := (blk_cell HR1.out 1).trans rfl
        have d2 : _ = some (Value.int .u64 0) := (blk_cell HR1.out 2).trans rfl
        have d3 : _ = some (Value.slice none 0 0) := (blk_cell HR1.out 3).trans rfl
        have d4 : _ = some (Value.int .i64 0) := (blk_cell HR1.out 4).trans rfl
        have d5 : _ = some (Value.slice none 0 0) := (blk_cell HR1.out 5).trans rfl
        have f0 := blk_frozen HR1.out 0
        have f1 := blk_frozen HR1.out 1
        have f2 := blk_frozen HR1.out 2
        have f3 := blk_frozen HR1.out 3
        have f4 := blk_frozen HR1.out 4
        have f5 := blk_frozen HR1.out 5
        go_wp2_with fail
        refine bodyPost_ret (v := .tuple #[.agg #[.int .i64 0, .int .u64 0, .int .u64 0, .slice none 0 0, .int .i64 0, .slice none 0 0], .int .i64 125]) (results_ct (fn := Tryd.f21) rfl _ _ w.heap.size 46 #[.int .i64 0, .int .u64 0, .int .u64 0, .slice none 0 0, .int .i64 0, .slice none 0 0] (0, 0) _ rfl (by exact (blk_set ((blk_set ((blk_set ((blk_set ((blk_set ((blk_set HR1.out 0 (.int .i64 0)).trans rfl) 1 (.int .u64 0)).trans rfl) 2 (.int .u64 0)).trans rfl) 3 (.slice none 0 0)).trans rfl) 4 (.int .i64 0)).trans rfl) 5 (.slice none 0 0)).trans rfl) Tryd.underlying46 rfl (by kernel_rfl)) rfl ?_
        refine ⟨_, by rw [HV.out.1, HV.out.2]; rfl, ?_, ((((((HB.out.setCell (p := ⟨w.heap.size, 0, none⟩) (Nat.le_refl _) _).setCell (p := ⟨w.heap.size, 1, none⟩) (Nat.le_refl _) _).setCell (p := ⟨w.heap.size, 2, none⟩) (Nat.le_refl _) _).setCell (p := ⟨w.heap.size, 3, none⟩) (Nat.le_refl _) _).setCell (p := ⟨w.heap.size, 4, none⟩) (Nat.le_refl _) _).setCell (p := ⟨w.heap.size, 5, none⟩) (Nat.le_refl _) _)⟩
        rw [HV.out.1]
        exact Kd.R_nil _ _ _ _ _
      case true =>
        refine (HImEr.yes id 0 0 gen none 0 [] A cc l _ (Kd.C_nil _ _) (Nat.le_refl _) HCc.out hcl hgd).mono ?_
        rintro e w40 ⟨rfl, hb⟩
        have HT := Aside0.mk (HT.out.step hb)
        clear hb HCc hK
        have g2 : _ = some (Value.bool false) := (blk_cell HT.out.cur.1 2).trans (by rw [hcb]; rfl)
        have HR1 := Aside0.mk HT.out.res
        have HB := Aside0.mk HT.out.below
        by_cases hf : fileOf ltE (byE id gen l) = b
        case neg =>
          have HV := Aside0.mk (looseE_no HO0.out HLb.out (fun h => hf h.2.2))
          have kq : ((fileOf ltE (byE id gen l)).toList == b.toList) = false := beq_eq_false_iff_ne.2 (fun h => hf (ba_ext (by rw [← toList_data, ← toList_data, h])))
          generalize fileOf ltE (byE id gen l) = fo at kq ⊢
          clear HLb hgd hf
          have d0 : _ = some (Value.int .i64 0) := (blk_cell HR1.out 0).trans rfl
          have d1 : _ = some (Value.int .u64 0) := (blk_cell HR1.out 1).trans rfl
          have d2 : _ = some (Value.int .u64 0) := (blk_cell HR1.out 2).trans rfl
          have d3 : _ = some (Value.slice none 0 0) := (blk_cell HR1.out 3).trans rfl
          have d4 : _ = some (Value.int .i64 0) := (blk_cell HR1.out 4).trans rfl
          have d5 : _ = some (Value.slice none 0 0) := (blk_cell HR1.out 5).trans rfl
          have f0 := blk_frozen HR1.out 0
          have f1 := blk_frozen HR1.out 1
          have f2 := blk_frozen HR1.out 2
          have f3 := blk_frozen HR1.out 3
          have f4 := blk_frozen HR1.out 4
          have f5 := blk_frozen HR1.out 5
          go_wp2_with fail
          refine bodyPost_ret (v := .tuple #[.agg #[.int .i64 0, .int .u64 0, .int .u64 0, .slice none 0 0, .int .i64 0, .slice none 0 0], .int .i64 125]) (results_ct (fn := Tryd.f21) rfl _ _ w.heap.size 46 #[.int .i64 0, .int .u64 0, .int .u64 0, .slice none 0 0, .int .i64 0, .slice none 0 0] (0, 0) _ rfl (by exact (blk_set ((blk_set ((blk_set ((blk_set ((blk_set ((blk_set HR1.out 0 (.int .i64 0)).trans rfl) 1 (.int .u64 0)).trans rfl) 2 (.int .u64 0)).trans rfl) 3 (.slice none 0 0)).trans rfl) 4 (.int .i64 0)).trans rfl) 5 (.slice none 0 0)).trans rfl) Tryd.underlying46 rfl (by kernel_rfl)) rfl ?_
          refine ⟨_, by rw [HV.out.1, HV.out.2]; rfl, ?_, ((((((HB.out.setCell (p := ⟨w.heap.size, 0, none⟩) (Nat.le_refl _) _).setCell (p := ⟨w.heap.size, 1, none⟩) (Nat.le_refl _) _).setCell (p := ⟨w.heap.size, 2, none⟩) (Nat.le_refl _) _).setCell (p := ⟨w.heap.size, 3, none⟩) (Nat.le_refl _) _).setCell (p := ⟨w.heap.size, 4, none⟩) (Nat.le_refl _) _).setCell (p := ⟨w.heap.size, 5, none⟩) (Nat.le_refl _) _)⟩
          rw [HV.out.1]
          exact Kd.R_nil _ _ _ _ _
        have HV := Aside0.mk (looseE_yes HO0.out HLb.out rfl hgd hf)
        have HO := Aside0.mk HT.out.own
        rw [hf]
        clear HLb hgd hf
        have kq : (b.toList == b.toList) = true := beq_iff_eq.2 rfl
        have c0 : _ = some (Value.int .i64 id) := (blk_cell HT.out.pair 0).trans rfl
        have c1 : _ = some (Value.int .u64 0) := (blk_cell HT.out.pair 1).trans rfl
        have c2 : _ = some (Value.int .u64 0) := (blk_cell HT.out.pair 2).trans rfl
        have c3 : _ = some (Value.slice none 0 0) := (blk_cell HT.out.pair 3).trans rfl
        have c4 : _ = some (Value.int .i64 gen) := (blk_cell HT.out.pair 4).trans rfl
        have c5 : _ = some (Value.slice A l.length cc) := (blk_cell HT.out.pair 5).trans rfl
        have d0 : _ = some (Value.int .i64 0) := (blk_cell HR1.out 0).trans rfl
        have d1 : _ = some (Value.int .u64 0) := (blk_cell HR1.out 1).trans rfl
        have d2 : _ = some (Value.int .u64 0) := (blk_cell HR1.out 2).trans rfl
        have d3 : _ = some (Value.slice none 0 0) := (blk_cell HR1.out 3).trans rfl
        have d4 : _ = some (Value.int .i64 0) := (blk_cell HR1.out 4).trans rfl
        have d5 : _ = some (Value.slice none 0 0) := (blk_cell HR1.out 5).trans rfl
        have f0 := blk_frozen HR1.out 0
        have f1 := blk_frozen HR1.out 1
        have f2 := blk_frozen HR1.out 2
        have f3 := blk_frozen HR1.out 3
        have f4 := blk_frozen HR1.out 4
        have f5 := blk_frozen HR1.out 5
        go_wp2_with fail
        refine bodyPost_ret (v := .tuple #[.agg #[.int .i64 id, .int .u64 0, .int .u64 0, .slice none 0 0, .int .i64 gen, .slice A l.length cc], .int .i64 0]) (results_ct (fn := Tryd.f21) rfl _ _ w.heap.size 46 #[.int .i64 id, .int .u64 0, .int .u64 0, .slice none 0 0, .int .i64 gen, .slice A l.length cc] (0, 0) _ rfl (by exact (blk_set ((blk_set ((blk_set ((blk_set ((blk_set ((blk_set HR1.out 0 (.int .i64 id)).trans rfl) 1 (.int .u64 0)).trans rfl) 2 (.int .u64 0)).trans rfl) 3 (.slice none 0 0)).trans rfl) 4 (.int .i64 gen)).trans rfl) 5 (.slice A l.length cc)).trans rfl) Tryd.underlying46 rfl (by kernel_rfl)) rfl ?_
        refine ⟨_, by rw [HV.out.1, HV.out.2]; rfl, ?_, ((((((HB.out.setCell (p := ⟨w.heap.size, 0, none⟩) (Nat.le_refl _) _).setCell (p := ⟨w.heap.size, 1, none⟩) (Nat.le_refl _) _).setCell (p := ⟨w.heap.size, 2, none⟩) (Nat.le_refl _) _).setCell (p := ⟨w.heap.size, 3, none⟩) (Nat.le_refl _) _).setCell (p := ⟨w.heap.size, 4, none⟩) (Nat.le_refl _) _).setCell (p := ⟨w.heap.size, 5, none⟩) (Nat.le_refl _) _)⟩
        rw [HV.out.1]
        exact Kd.R_mono (Kd.R_far (p := ⟨w.heap.size, 5, none⟩) (Kd.R_far (p := ⟨w.heap.size, 4, none⟩) (Kd.R_far (p := ⟨w.heap.size, 3, none⟩) (Kd.R_far (p := ⟨w.heap.size, 2, none⟩) (Kd.R_far (p := ⟨w.heap.size, 1, none⟩) (Kd.R_far (p := ⟨w.heap.size, 0, none⟩) (Kd.R_types HO.out HR1.out (by decide)) (fun _ hk => hk.2) _) (fun _ hk => hk.2) _) (fun _ hk => hk.2) _) (fun _ hk => hk.2) _) (fun _ hk => hk.2) _) (fun _ hk => hk.2) _) (fun _ _ => trivial)
    obtain ⟨m, hm⟩ : ∃ m, N - l.length = m + 1 := ⟨N - l.length - 1, by omega⟩
    have hLR := HLR.out
    rw [hm] at hLR
    simp only [lr, hcb, Bool.false_eq_true, if_false] at hLR
    have HLR := Aside0.mk hLR
    clear hLR
    obtain ⟨hc0, hc1, hc2⟩ := hc hcb
    clear hc
    go_wp2_with fail
    clear g2
    obtain ⟨a, c_a, hr_a⟩ : ∃ x y, cn s c = (x, y) := ⟨_, _, rfl⟩
    have rg_a := cn_rng s c
    rw [hr_a] at rg_a
    obtain ⟨a_0, a_1, a_a⟩ := rg_a
    simp only at a_0 a_1
    refine (num_any gb s c w _ HS.out HT.out.cur HT.out.below).mono ?_
    rw [hr_a]
    rintro e w15 ⟨rfl, hI, hB, hK⟩
    have HT := Aside0.mk (HT.out.reads (by decide) hI hB hK)
    clear hI hB hK
    have HV := Aside0.mk (heap_alloc_new w15 (.cells #[.int .u64 (IntKind.u64.wrap (last + a)), .int .u64 0, .string (⟨#[]⟩ : ByteArray)] 60))
    have hnb : w.heap.size < w15.heap.size ∧ w15.heap.size ≠ pb ∧ w15.heap.size ≠ gb := ⟨blk_lt HT.out.res, Nat.ne_of_gt (blk_lt HT.out.pair), Nat.ne_of_gt (blk_lt HT.out.cur.1)⟩
    have HT := Aside0.mk (HT.out.new (.cells #[.int .u64 (IntKind.u64.wrap (last + a)), .int .u64 0, .string (⟨#[]⟩ : ByteArray)] 60))
    go_wp2_with fail
    obtain ⟨nb, hnbe⟩ : ∃ nb, nb = w15.heap.size := ⟨_, rfl⟩
    rw [← hnbe] at HV HT hnb ⊢
    clear hnbe
    obtain ⟨b2, c_b2, hr_b2⟩ : ∃ x y, cn s c_a = (x, y) := ⟨_, _, rfl⟩
    have rg_b2 := cn_rng s c_a
    rw [hr_b2] at rg_b2
    obtain ⟨b2_0, b2_1, b2_a⟩ := rg_b2
    simp only at b2_0 b2_1
    go_upto_region 12 with (fail)
    have y0 : _ = some (Value.int .u64 (IntKind.u64.wrap (last + a))) := (blk_cell HV.out 0).trans rfl
    have y1 : _ = some (Value.int .u64 0) := (blk_cell HV.out 1).trans rfl
    have y2 : _ = some (Value.string (⟨#[]⟩ : ByteArray)) := (blk_cell HV.out 2).trans rfl
    have gf := blk_frozen HV.out 1
    go_cut [] (fun wx => Aside0 (Lo k60 60 46 #[.int .i64 0, .int .u64 0, .int .u64 0, .slice none 0 0, .int .i64 0, .slice none 0 0] w pb gb nb s c_b2 #[.int .i64 id, .int .u64 0, .int .u64 0, .slice none 0 0, .int .i64 gen, u] u l wx) ∧ Aside0 (wx.heap[nb]? = some (.cells #[.int .u64 (IntKind.u64.wrap (last + a)), .int .u64 (IntKind.u64.wrap ((IntKind.u64.wrap (last + a)) + b2)), .string (⟨#[]⟩ : ByteArray)] 60 (0, 0))))
    case first =>
      go_region_with (first | (go_at_call 45; (with_reducible refine (num_any gb s c_a w _ HS.out HT.out.drew.cur HT.out.drew.below).mono ?_); rw [hr_b2]; rintro e wk ⟨rfl, hI, hB, hK⟩; have HT2 := Aside0.mk (HT.out.drew.reads (by decide) hI hB hK); have HV2 := Aside0.mk ((hK.2 nb (by exact blk_lt HV.out) hnb.2.2 (by simp)).trans HV.out); have z1 : _ = some (Value.int .u64 (IntKind.u64.wrap (last + a))) := (blk_cell HV2.out 0).trans rfl; have z2 : _ = some (Value.int .u64 0) := (blk_cell HV2.out 1).trans rfl; have zf := blk_frozen HV2.out 1; clear hI hB hK))
      all_goals (go_wp2_with fail; go_meet; case rel => exact ⟨⟨HT2.out.far hnb 1 _⟩, ⟨(blk_set HV2.out 1 _).trans rfl⟩⟩)
    clear y0 y1 y2 gf
    obtain ⟨HT, HV⟩ := hcut
    obtain ⟨k_b2, rfl⟩ : ∃ x, x = wc := ⟨_, rfl⟩
    have y0 : _ = some (Value.int .u64 (IntKind.u64.wrap (last + a))) := (blk_cell HV.out 0).trans rfl
    have y1 : _ = some (Value.int .u64 (IntKind.u64.wrap ((IntKind.u64.wrap (last + a)) + b2))) := (blk_cell HV.out 1).trans rfl
    have y2 : _ = some (Value.string (⟨#[]⟩ : ByteArray)) := (blk_cell HV.out 2).trans rfl
    go_wp2_with fail
    clear y0 y1 y2
    obtain ⟨key, c_key, hr_key⟩ : ∃ x y, ct s c_b2 = (x, y) := ⟨_, _, rfl⟩
    have rg_key := ct_rng s c_b2
    rw [hr_key] at rg_key
    obtain ⟨key_0, key_a⟩ := rg_key
    simp only at key_0
    refine (text_any gb s c_b2 w _ HS.out HT.out.cur HT.out.below).mono ?_
    rw [hr_key]
    rintro e w16 ⟨rfl, hI, hB, hK⟩
    have HT := Aside0.mk (HT.out.reads (by decide) hI hB hK)
    have HV := Aside0.mk ((hK.2 _ (blk_lt HV.out) hnb.2.2 (by simp)).trans HV.out)
    clear hI hB hK
    have y0 : _ = some (Value.int .u64 (IntKind.u64.wrap (last + a))) := (blk_cell HV.out 0).trans rfl
    have y1 : _ = some (Value.int .u64 (IntKind.u64.wrap ((IntKind.u64.wrap (last + a)) + b2))) := (blk_cell HV.out 1).trans rfl
    have y2 : _ = some (Value.string (⟨#[]⟩ : ByteArray)) := (blk_cell HV.out 2).trans rfl
    have gf := blk_frozen HV.out 2
    have HV : Aside0 ((w16.setCell ⟨nb, 2, none⟩ (.string key)).heap[nb]? = some (.cells #[.int .u64 (IntKind.u64.wrap (last + a)), .int .u64 (IntKind.u64.wrap ((IntKind.u64.wrap (last + a)) + b2)), .string key] 60 (0, 0))) := ⟨(blk_set HV.out 2 (.string key)).trans rfl⟩
    have HT := Aside0.mk (HT.out.far hnb 2 (.string key))
    go_upto_region 14 with (fail)
    clear y0 y1 y2 gf
    have y0 : _ = some (Value.int .u64 (IntKind.u64.wrap (last + a))) := (blk_cell HV.out 0).trans rfl
    have y1 : _ = some (Value.int .u64 (IntKind.u64.wrap ((IntKind.u64.wrap (last + a)) + b2))) := (blk_cell HV.out 1).trans rfl
    have y2 : _ = some (Value.string key) := (blk_cell HV.out 2).trans rfl
    have HTo := HT
    have c0 : _ = some (Value.int .i64 id) := (blk_cell HT.out.pair 0).trans rfl
    have c1 : _ = some (Value.int .u64 0) := (blk_cell HT.out.pair 1).trans rfl
    have c2 : _ = some (Value.int .u64 0) := (blk_cell HT.out.pair 2).trans rfl
    have c3 : _ = some (Value.slice none 0 0) := (blk_cell HT.out.pair 3).trans rfl
    have c4 : _ = some (Value.int .i64 gen) := (blk_cell HT.out.pair 4).trans rfl
    have c5 : _ = some (u) := (blk_cell HT.out.pair 5).trans rfl
    have ff := blk_frozen HT.out.pair 5
    go_wp2_with ((with_reducible refine gate_builtin (b := .append) (xs := #[.tmp 59, .tmp 61]) rfl ?_); go_loud (at_builtin; refine Kd.R_append k60 (w0 := w) w.heap.size rfl (.tmp 59) (.tmp 61) 44 60 (.agg #[.int .u64 0, .int .u64 0, .string ⟨#[]⟩]) 32 rfl Tryd.underlying44 info60 rfl (by decide) (by omega) u l (⟨IntKind.u64.wrap (last + a), IntKind.u64.wrap (IntKind.u64.wrap (last + a) + b2), key⟩ : SE) [.int .u64 (IntKind.u64.wrap (last + a)), .int .u64 (IntKind.u64.wrap ((IntKind.u64.wrap (last + a)) + b2)), .string key] (fun k => k ≠ nb) (fun _ => False) rfl (by first | (go_simp; done) | (go_simp; rfl)) ?aP (fun _ hk => hk.elim) ?aF ?aO ?aB ?aS ?aL ?_; (case aP => exact k60_mkM _ _ _ (⟨IntKind.u64.wrap (last + a), IntKind.u64.wrap (IntKind.u64.wrap (last + a) + b2), key⟩ : SE)); (case aF => exact (fun k hk => Nat.ne_of_gt (Nat.lt_of_lt_of_le (blk_lt HV.out) hk))); (case aO => exact HT.out.own); (case aB => exact HT.out.below); (case aS => exact HT.out.below.size); (case aL => omega); clear c0 c1 c2 c3 c4 c5 y0 y1 y2 ff; intro u' w99 ho hb hg hat; obtain ⟨A', c', rfl⟩ := Kd.R_slice ho; have HT := Aside0.mk (HT.out.more (by decide) (by decide) hb hg ho 5); have c5 : _ = some u := (blk_cell ((hg.block _ (blk_lt HTo.out.pair) (Kd.R_ne HTo.out.own HTo.out.pair (by decide))).trans HTo.out.pair) 5).trans rfl; have ff := blk_frozen ((hg.block _ (blk_lt HTo.out.pair) (Kd.R_ne HTo.out.own HTo.out.pair (by decide))).trans HTo.out.pair) 5; clear ho hb hg hat))
    have hlen : (l ++ [(⟨IntKind.u64.wrap (last + a), IntKind.u64.wrap (IntKind.u64.wrap (last + a) + b2), key⟩ : SE)]).length = l.length + 1 := by rw [List.length_append, List.length_singleton]
    rw [hlen] at HT
    have hrec : lrE s last c = ((⟨IntKind.u64.wrap (last + a), IntKind.u64.wrap (IntKind.u64.wrap (last + a) + b2), key⟩ : SE), c_key) := by unfold lrE; simp only [hr_a, hr_b2, hr_key]
    have hLR := HLR.out
    rw [hrec] at hLR
    have HLR := Aside0.mk hLR
    clear hLR hrec hr_a hr_b2 hr_key
    have wb : 0 ≤ IntKind.u64.wrap (last + a) ∧ IntKind.u64.wrap (last + a) ≤ 18446744073709551615 := by rw [wu64_mod]; omega
    have hcc : c_key.2 = false → 0 ≤ c_key.1 ∧ ((l ++ [(⟨IntKind.u64.wrap (last + a), IntKind.u64.wrap (IntKind.u64.wrap (last + a) + b2), key⟩ : SE)]).length : Int) ≤ c_key.1 ∧ c_key.1 ≤ s.size := by
      intro h
      obtain ⟨q_key, p_key, e_key⟩ := key_a h
      obtain ⟨q_b2, p_b2, e_b2⟩ := b2_a q_key
      obtain ⟨q_a, p_a, e_a⟩ := a_a q_b2
      rw [hlen]
      omega
    clear a_a b2_a key_a
    go_roundw
    case rel => exact ⟨l.length + 1, c_key, IntKind.u64.wrap (last + a), .slice A' (l.length + 1) c', l ++ [(⟨IntKind.u64.wrap (last + a), IntKind.u64.wrap (IntKind.u64.wrap (last + a) + b2), key⟩ : SE)], by go_num, rfl, wb, by omega, hlen, hcc, by rw [hlen]; omega, ⟨HT.out.free (by decide)⟩, ⟨by rw [show N - (l.length + 1) = m by omega]; exact HLR.out⟩⟩
    case measure => simp [intOf]; omega
end Go.Proofs.YtejjidggnnhgjaaDoor.HImSe
/- EncodeDelta of layer 12, by the program. -/
set_option linter.unusedVariables false
set_option linter.unusedSimpArgs false
namespace Go.Proofs.YtejjidggnnhgjaaDoor.HImEe
open Go.RowKit Go.Proofs.YtejjidggnnhgjaaDoor.PImg Go.Proofs.YtejjidggnnhgjaaDoor.HBase Go.Proofs.YtejjidggnnhgjaaDoor.HBlob Go.Proofs.YtejjidggnnhgjaaDoor.HSum Go.Proofs.YtejjidggnnhgjaaDoor.HCk Go.Proofs.YtejjidggnnhgjaaDoor.HBuildW Go.Proofs.YtejjidggnnhgjaaDoor.HImgW Go.Proofs.YtejjidggnnhgjaaDoor.HImP Go.Proofs.YtejjidggnnhgjaaDoor.HImD Go.Proofs.YtejjidggnnhgjaaDoor.HImE Go.Proofs.YtejjidggnnhgjaaDoorW.PrintWords Go.Proofs.YtejjidggnnhgjaaDoorW.PrintLast Go.Proofs.YtejjidggnnhgjaaDoorW.PrintMore Go.Proofs.YtejjidggnnhgjaaDoor.HCore
set_option maxRecDepth 100000 in
set_option maxHeartbeats 1000000 in
theorem no (k : Nat) (id lo hi gen : Int) (A : Option Addr) (c : Nat) (ds : List SD) (A2 : Option Addr) (c2 : Nat) (es : List SE) (w : World) (hC : Kd.C k58 w A ds.length ds) (hc : ds.length ≤ c) (hC2 : Kd.C k60 w A2 es.length es) (hc2 : es.length ≤ c2) (hg : image_goodDelta.f k id lo hi ds gen es = some false) :
    Calls Tryd.prog 16 #[.agg #[.int .i64 id, .int .u64 lo, .int .u64 hi, .slice A ds.length c, .int .i64 gen, .slice A2 es.length c2]] w fun e w' => e = .returned (.tuple #[.string (⟨#[]⟩ : ByteArray), .int .i64 2]) ∧ Below w.heap.size w w' := by
  have HG := Aside0.mk hg
  have HC := Aside0.mk hC
  have HC2 := Aside0.mk hC2
  clear hC hC2 hg
  go_enter Tryd.func16, Tryd.ntmps16
  go_wp2_with fail
  refine (image_goodDelta.calls k id lo hi A c ds gen A2 c2 es false _ (Kd.C_alloc HC.out _) hc (Kd.C_alloc HC2.out _) hc2 HG.out).mono ?_
  rintro e w1 ⟨rfl, hb1⟩
  have HB1 := Aside0.mk (below_then (below_alloc (Below.refl w.heap.size w) (.cells #[.int .i64 id, .int .u64 lo, .int .u64 hi, .slice A ds.length c, .int .i64 gen, .slice A2 es.length c2] 46)) (by simp) hb1)
  clear hb1
  go_wp2
  go_ret2
  exact ⟨rfl, HB1.out⟩
set_option maxRecDepth 100000 in
set_option maxHeartbeats 8000000 in
theorem yes (k : Nat) (id lo hi gen : Int) (A : Option Addr) (c : Nat) (ds : List SD) (A2 : Option Addr) (c2 : Nat) (es : List SE) (w : World) (hC : Kd.C k58 w A ds.length ds) (hc : ds.length ≤ c) (hC2 : Kd.C k60 w A2 es.length es) (hc2 : es.length ≤ c2) (hT : Tab w) (hg : image_goodDelta.f k id lo hi ds gen es = some true) (hgd : gdE id gen es = true) :
    Calls Tryd.prog 16 #[.agg #[.int .i64 id, .int .u64 lo, .int .u64 hi, .slice A ds.length c, .int .i64 gen, .slice A2 es.length c2]] w fun e w' => e = .returned (.tuple #[.string (fileOf ltE (byE id gen es)), .int .i64 0]) ∧ Below w.heap.size w w' := by
  obtain ⟨⟨g1, g2, g3, g4, g5, g7⟩, g6⟩ := gdE_parts hgd
  have HG := Aside0.mk hg
  have HC := Aside0.mk hC
  have HC2 := Aside0.mk hC2
  have HT := Aside0.mk hT
  have HO := Aside0.mk (okE_nonneg es 0 (Int.le_refl 0) g6)
  have HY : Aside0 (ltE.data.toList ++ byE id gen es = (ltE.data.toList ++ ub id ++ ub gen ++ ub (es.length : Int)) ++ ens wrE nxE 0 es) := ⟨by unfold byE; simp only [List.append_assoc]⟩
  have u0 : ltE.data.toList.length = 8 := rfl
  have u1 := ub_len (id)
  have u2 := ub_len (gen)
  have u3 := ub_len ((es.length : Int))
  clear hC hT hgd g6 hC2 hg
  go_enter Tryd.func16, Tryd.ntmps16
  go_wp2_with fail
  refine (image_goodDelta.calls k id lo hi A c ds gen A2 c2 es true _ (Kd.C_alloc HC.out _) hc (Kd.C_alloc HC2.out _) hc2 HG.out).mono ?_
  rintro e w1 ⟨rfl, hb1⟩
  have HB1 := Aside0.mk (below_then (below_alloc (Below.refl w.heap.size w) (.cells #[.int .i64 id, .int .u64 lo, .int .u64 hi, .slice A ds.length c, .int .i64 gen, .slice A2 es.length c2] 46)) (by simp) hb1)
  have HX1 := Aside0.mk ((hb1.block _ (blk_lt (heap_alloc_new _ _))).trans (heap_alloc_new w (.cells #[.int .i64 id, .int .u64 lo, .int .u64 hi, .slice A ds.length c, .int .i64 gen, .slice A2 es.length c2] 46)))
  clear hb1 HG
  go_wp2_with fail
  refine (new_es ltE w w1 (by decide) HB1.out [(w.heap.size, #[.int .i64 id, .int .u64 lo, .int .u64 hi, .slice A ds.length c, .int .i64 gen, .slice A2 es.length c2], 46)] (fun t ht => by rcases List.mem_singleton.1 ht with rfl; exact ⟨HX1.out, show (46 : Nat) ≠ 5 by decide⟩)).mono ?_
  rintro e w2 ⟨b, rfl, he2⟩
  have HE := Aside0.mk he2
  clear he2 HB1 HX1
  obtain ⟨x0, x1, x2, x3, x4, x5⟩ : w2.cell? ⟨w.heap.size, 0, none⟩ = some (.int .i64 id) ∧ w2.cell? ⟨w.heap.size, 1, none⟩ = some (.int .u64 lo) ∧ w2.cell? ⟨w.heap.size, 2, none⟩ = some (.int .u64 hi) ∧ w2.cell? ⟨w.heap.size, 3, none⟩ = some (.slice A ds.length c) ∧ w2.cell? ⟨w.heap.size, 4, none⟩ = some (.int .i64 gen) ∧ w2.cell? ⟨w.heap.size, 5, none⟩ = some (.slice A2 es.length c2) := ⟨(blk_cell HE.out.one 0).trans rfl, (blk_cell HE.out.one 1).trans rfl, (blk_cell HE.out.one 2).trans rfl, (blk_cell HE.out.one 3).trans rfl, (blk_cell HE.out.one 4).trans rfl, (blk_cell HE.out.one 5).trans rfl⟩
  go_wp2_with fail
  refine (number_es w _ b _ (id) HE.out ⟨by omega, by omega⟩ (by first | omega | (simp only [List.length_append]; omega))).mono ?_
  rintro e w3 ⟨rfl, he⟩
  clear x0 x1 x2 x3 x4 x5 HE
  have HE := Aside0.mk he
  clear he
  obtain ⟨x0, x1, x2, x3, x4, x5⟩ : w3.cell? ⟨w.heap.size, 0, none⟩ = some (.int .i64 id) ∧ w3.cell? ⟨w.heap.size, 1, none⟩ = some (.int .u64 lo) ∧ w3.cell? ⟨w.heap.size, 2, none⟩ = some (.int .u64 hi) ∧ w3.cell? ⟨w.heap.size, 3, none⟩ = some (.slice A ds.length c) ∧ w3.cell? ⟨w.heap.size, 4, none⟩ = some (.int .i64 gen) ∧ w3.cell? ⟨w.heap.size, 5, none⟩ = some (.slice A2 es.length c2) := ⟨(blk_cell HE.out.one 0).trans rfl, (blk_cell HE.out.one 1).trans rfl, (blk_cell HE.out.one 2).trans rfl, (blk_cell HE.out.one 3).trans rfl, (blk_cell HE.out.one 4).trans rfl, (blk_cell HE.out.one 5).trans rfl⟩
  go_wp2_with fail
  refine (number_es w _ b _ (gen) HE.out ⟨by omega, by omega⟩ (by first | omega | (simp only [List.length_append]; omega))).mono ?_
  rintro e w4 ⟨rfl, he⟩
  clear x0 x1 x2 x3 x4 x5 HE
  have HE := Aside0.mk he
  clear he
  obtain ⟨x0, x1, x2, x3, x4, x5⟩ : w4.cell? ⟨w.heap.size, 0, none⟩ = some (.int .i64 id) ∧ w4.cell? ⟨w.heap.size, 1, none⟩ = some (.int .u64 lo) ∧ w4.cell? ⟨w.heap.size, 2, none⟩ = some (.int .u64 hi) ∧ w4.cell? ⟨w.heap.size, 3, none⟩ = some (.slice A ds.length c) ∧ w4.cell? ⟨w.heap.size, 4, none⟩ = some (.int .i64 gen) ∧ w4.cell? ⟨w.heap.size, 5, none⟩ = some (.slice A2 es.length c2) := ⟨(blk_cell HE.out.one 0).trans rfl, (blk_cell HE.out.one 1).trans rfl, (blk_cell HE.out.one 2).trans rfl, (blk_cell HE.out.one 3).trans rfl, (blk_cell HE.out.one 4).trans rfl, (blk_cell HE.out.one 5).trans rfl⟩
  go_wp2_with fail
  refine (number_es w _ b _ ((es.length : Int)) HE.out ⟨by omega, by omega⟩ (by first | omega | (simp only [List.length_append]; omega))).mono ?_
  rintro e w5 ⟨rfl, he⟩
  clear x0 x1 x2 x3 x4 x5 HE
  have HE := Aside0.mk he
  clear he
  obtain ⟨x0, x1, x2, x3, x4, x5⟩ : w5.cell? ⟨w.heap.size, 0, none⟩ = some (.int .i64 id) ∧ w5.cell? ⟨w.heap.size, 1, none⟩ = some (.int .u64 lo) ∧ w5.cell? ⟨w.heap.size, 2, none⟩ = some (.int .u64 hi) ∧ w5.cell? ⟨w.heap.size, 3, none⟩ = some (.slice A ds.length c) ∧ w5.cell? ⟨w.heap.size, 4, none⟩ = some (.int .i64 gen) ∧ w5.cell? ⟨w.heap.size, 5, none⟩ = some (.slice A2 es.length c2) := ⟨(blk_cell HE.out.one 0).trans rfl, (blk_cell HE.out.one 1).trans rfl, (blk_cell HE.out.one 2).trans rfl, (blk_cell HE.out.one 3).trans rfl, (blk_cell HE.out.one 4).trans rfl, (blk_cell HE.out.one 5).trans rfl⟩
  obtain ⟨l0, hl0⟩ : ∃ l0, l0 = ltE.data.toList ++ ub id ++ ub gen ++ ub (es.length : Int) := ⟨_, rfl⟩
  have hl1 : l0.length ≤ 60 := by rw [hl0]; simp only [List.length_append]; omega
  rw [← hl0] at HE HY
  have HL := Aside0.mk hl1
  clear hl0 hl1 u0 u1 u2 u3
  go_wp2
  clear x0 x1 x2 x3 x4 x5
  go_loopw [5, 31] (fun vl vi wr => ∃ k : Nat, k ≤ es.length ∧ vi = .int .i64 (k : Int) ∧ vl = .int .u64 (lst nxE 0 (es.take k)) ∧ Aside0 (Es w wr b (l0 ++ ens wrE nxE 0 (es.take k)) [(w.heap.size, #[.int .i64 id, .int .u64 lo, .int .u64 hi, .slice A ds.length c, .int .i64 gen, .slice A2 es.length c2], 46)])) (fun _ vi _ => es.length - (intOf vi).toNat)
  case atStart => exact ⟨0, by omega, rfl, rfl, ⟨by rw [List.take_zero, show ens wrE nxE 0 [] = [] from rfl, List.append_nil]; exact HE.out⟩⟩
  case round =>
    clear HE
    obtain ⟨k, hk, rfl, rfl, HE⟩ := hrel
    by_cases hlt : k < es.length
    · have HCr := Kd.C_below HC2.out HE.out.bld.below
      obtain ⟨ad, eA, y0, y1, y2⟩ := at_T60 HCr (k : Int) (by omega) (by omega)
      subst eA
      simp only [Int.toNat_natCast] at y0 y1 y2
      obtain ⟨hokt, hok, hnx⟩ := oks_take HO.out k hlt
      have hlen := ens_len (wr := wrE) (fun st x h => wrE_len h.2) _ _ hokt
      rw [List.length_take] at hlen
      have hget : rd_T60 es (k : Int) = es[k] := by unfold rd_T60; rw [Int.toNat_natCast, List.getD_eq_getElem?_getD, List.getElem?_eq_getElem hlt, Option.getD_some]
      have hstep : ens wrE nxE 0 (es.take (k + 1)) = ens wrE nxE 0 (es.take k) ++ wrE (lst nxE 0 (es.take k)) es[k] := by rw [List.take_succ_eq_append_getElem hlt, ens_snoc]
      have hl9 : (l0 ++ ens wrE nxE 0 (es.take k)).length ≤ 60 + 710 * 65536 := by rw [List.length_append]; have := HL.out; omega
      rw [← hget] at hok hnx hstep
      have HN := Aside0.mk hnx
      generalize rd_T60 es (k : Int) = x at y0 y1 y2 hok hstep HN
      have HP := Aside0.mk hstep
      generalize ens wrE nxE 0 (es.take k) = pre at HE hl9 HP
      generalize lst nxE 0 (es.take k) = st at hok HP ⊢
      rw [List.length_append] at hl9
      clear hnx hstep hlen hokt hget HCr
      obtain ⟨hst, o1, o2, o3, o4, o5⟩ := hok
      have vt := tb_len x.f2
      have HE := Aside0.mk (HE.out.add #[.int .u64 x.f0, .int .u64 x.f1, .string x.f2] 60 (by decide))
      --LOOP0
      go_wp2_with fail
      clear y0 y1 y2
      generalize wr.heap.size = vb at HE ⊢
      have uu := ub_len (x.f0 - st)
      refine (number_es w _ b _ (x.f0 - st) HE.out ⟨by omega, by omega⟩ (by first | omega | (simp only [List.length_append]; omega))).mono ?_
      rintro e v0 ⟨rfl, he⟩
      clear HE
      have HE := Aside0.mk he
      clear he
      generalize hub0 : ub (x.f0 - st) = b0 at HE uu
      have HU0 := Aside0.mk hub0
      clear hub0
      obtain ⟨y0, y1, y2⟩ : v0.cell? ⟨vb, 0, none⟩ = some (.int .u64 x.f0) ∧ v0.cell? ⟨vb, 1, none⟩ = some (.int .u64 x.f1) ∧ v0.cell? ⟨vb, 2, none⟩ = some (.string x.f2) := ⟨(blk_cell HE.out.one 0).trans rfl, (blk_cell HE.out.one 1).trans rfl, (blk_cell HE.out.one 2).trans rfl⟩
      --REGL0
      go_wp2_with fail
      have uu := ub_len (x.f1 - x.f0)
      refine (number_es w _ b _ (x.f1 - x.f0) HE.out ⟨by omega, by omega⟩ (by first | omega | (simp only [List.length_append]; omega))).mono ?_
      rintro e v1 ⟨rfl, he⟩
      clear y0 y1 y2
      clear HE
      have HE := Aside0.mk he
      clear he
      generalize hub1 : ub (x.f1 - x.f0) = b1 at HE uu
      have HU1 := Aside0.mk hub1
      clear hub1
      obtain ⟨y0, y1, y2⟩ : v1.cell? ⟨vb, 0, none⟩ = some (.int .u64 x.f0) ∧ v1.cell? ⟨vb, 1, none⟩ = some (.int .u64 x.f1) ∧ v1.cell? ⟨vb, 2, none⟩ = some (.string x.f2) := ⟨(blk_cell HE.out.one 0).trans rfl, (blk_cell HE.out.one 1).trans rfl, (blk_cell HE.out.one 2).trans rfl⟩
      --REGL1
      go_wp2_with fail
      refine (text_es w _ b _ (x.f2) HE.out (by omega) (by first | omega | (simp only [List.length_append]; omega))).mono ?_
      rintro e v2 ⟨rfl, he⟩
      clear y0 y1 y2
      clear HE
      have HE := Aside0.mk he
      clear he
      obtain ⟨y0, y1, y2⟩ : v2.cell? ⟨vb, 0, none⟩ = some (.int .u64 x.f0) ∧ v2.cell? ⟨vb, 1, none⟩ = some (.int .u64 x.f1) ∧ v2.cell? ⟨vb, 2, none⟩ = some (.string x.f2) := ⟨(blk_cell HE.out.one 0).trans rfl, (blk_cell HE.out.one 1).trans rfl, (blk_cell HE.out.one 2).trans rfl⟩
      go_wp2
      go_roundw
      case rel => exact ⟨k + 1, by omega, by go_num, by rw [HN.out]; rfl, ⟨by rw [HP.out, ← List.append_assoc]; unfold wrE; rw [HU0.out, HU1.out]; simp only [List.append_assoc]; have h := HE.out; simp only [List.append_assoc] at h; exact h.less (fun t ht => List.mem_cons_of_mem _ ht)⟩⟩
      case measure => simp [intOf]; omega
    · obtain rfl : k = es.length := by omega
      rw [List.take_length] at HE ⊢
      have hlen := ens_len (wr := wrE) (fun st x h => wrE_len h.2) _ _ HO.out
      rw [← HY.out] at HE
      have hl8 : (ltE.data.toList ++ byE id gen es).length ≤ 60 + 710 * 65536 := by rw [HY.out, List.length_append]; have := HL.out; omega
      have hl7 : ltE.data.toList ++ byE id gen es ≠ [] := fun h => by have := congrArg List.length h; rw [List.length_append] at this; simp only [show ltE.data.toList.length = 8 from rfl, List.length_nil] at this; omega
      have HN7 := Aside0.mk hl7
      have HN8 : Aside0 ((ltE.data.toList ++ byE id gen es).length ≤ 140737488355328) := ⟨by omega⟩
      clear hlen hl8 hl7
      go_wp2_with fail
      refine (sealed_any w _ b _ HE.out.bld HN7.out HN8.out HT.out).mono ?_
      rintro e w9 ⟨rfl, hb9⟩
      have HB9 := Aside0.mk hb9
      clear hb9
      go_wp2
      go_ret2
      exact ⟨rfl, HB9.out⟩
end Go.Proofs.YtejjidggnnhgjaaDoor.HImEe
/- What the statements of layer 12 call, each by one contract: twins, comparisons, the writers and readers of both sides. -/
set_option linter.unusedVariables false
set_option linter.unusedSimpArgs false
namespace Go.Proofs.YtejjidggnnhgjaaDoor.HImT
open Go.RowKit Go.Proofs.YtejjidggnnhgjaaDoor.PImg Go.Proofs.YtejjidggnnhgjaaDoor.HBase Go.Proofs.YtejjidggnnhgjaaDoor.HBlob Go.Proofs.YtejjidggnnhgjaaDoor.HSum Go.Proofs.YtejjidggnnhgjaaDoor.HCk Go.Proofs.YtejjidggnnhgjaaDoor.HImgW Go.Proofs.YtejjidggnnhgjaaDoor.HImgR Go.Proofs.YtejjidggnnhgjaaDoor.HImgO Go.Proofs.YtejjidggnnhgjaaDoor.HImP Go.Proofs.YtejjidggnnhgjaaDoor.HImD Go.Proofs.YtejjidggnnhgjaaDoor.HImE Go.Proofs.YtejjidggnnhgjaaDoor.HImF Go.Proofs.YtejjidggnnhgjaaDoor.HImK Go.Proofs.YtejjidggnnhgjaaDoor.HImKe Go.Proofs.YtejjidggnnhgjaaDoor.HImS Go.Proofs.YtejjidggnnhgjaaDoor.HImS2 Go.Proofs.YtejjidggnnhgjaaDoorW.PrintWords Go.Proofs.YtejjidggnnhgjaaDoorW.PrintLast Go.Proofs.YtejjidggnnhgjaaDoorW.PrintMore Go.Proofs.YtejjidggnnhgjaaDoor.HCore
/-! ### comparisons of what is the same -/
theorem sameD_l (ds : List SD) (hn : ds.length < 3518437208883) : ∀ (d i k : Nat), i + d = ds.length → d < k → stratalaw12_sameData.l0 k ds ds (i : Int) = some true := by
  intro d
  induction d with
  | zero =>
    intro i k hi hk
    obtain ⟨k, rfl⟩ : ∃ k', k = k' + 1 := ⟨k - 1, by omega⟩
    rw [stratalaw12_sameData.l0, if_neg (by omega)]
  | succ d ih =>
    intro i k hi hk
    obtain ⟨k, rfl⟩ : ∃ k', k = k' + 1 := ⟨k - 1, by omega⟩
    rw [stratalaw12_sameData.l0, if_pos (by omega), if_pos (by omega), if_pos (by omega), if_neg (by simp), wstep i (by omega)]
    exact ih (i + 1) k (by omega) (by omega)
theorem sameE_l (ds : List SE) (hn : ds.length < 4398046511104) : ∀ (d i k : Nat), i + d = ds.length → d < k → stratalaw12_sameGone.l0 k ds ds (i : Int) = some true := by
  intro d
  induction d with
  | zero =>
    intro i k hi hk
    obtain ⟨k, rfl⟩ : ∃ k', k = k' + 1 := ⟨k - 1, by omega⟩
    rw [stratalaw12_sameGone.l0, if_neg (by omega)]
  | succ d ih =>
    intro i k hi hk
    obtain ⟨k, rfl⟩ : ∃ k', k = k' + 1 := ⟨k - 1, by omega⟩
    rw [stratalaw12_sameGone.l0, if_pos (by omega), if_pos (by omega), if_pos (by omega), if_neg (by simp), wstep i (by omega)]
    exact ih (i + 1) k (by omega) (by omega)
theorem sameP_f (a b c g : Int) (ds : List SD) (es : List SE) (hn : ds.length < 3518437208883) (hm : es.length < 4398046511104) : stratalaw12_samePair.f (ds.length + es.length + 1) a b c ds g es a b c ds g es = some true := by
  have h1 : stratalaw12_sameData.f (ds.length + es.length + 1) ds ds = some true := by
    unfold stratalaw12_sameData.f
    rw [if_pos rfl]
    exact sameD_l ds hn ds.length 0 _ (by omega) (by omega)
  have h2 : stratalaw12_sameGone.f (ds.length + es.length + 1) es es = some true := by
    unfold stratalaw12_sameGone.f
    rw [if_pos rfl]
    exact sameE_l es hm es.length 0 _ (by omega) (by omega)
  unfold stratalaw12_samePair.f
  rw [if_pos rfl, if_pos rfl, if_pos rfl, if_pos rfl, h1, Option.bind_some, if_pos rfl, h2, Option.bind_some]
theorem num_any (a : Int) (w : World) : Calls Tryd.prog 10 #[.int .i64 a] w fun e w' => e = .returned (.int .i64 a) ∧ w = w' := by
  go_enter Tryd.func10, Tryd.ntmps10
  go_wp2
  go_ret
  exact ⟨rfl, rfl⟩
theorem same_pair (id lo hi gen : Int) (A : Option Addr) (n c : Nat) (ds : List SD) (A2 : Option Addr) (n2 c2 : Nat) (es : List SE) (B : Option Addr) (m d : Nat) (B2 : Option Addr) (m2 d2 : Nat) (w : World)
    (hC : Kd.C k58 w A n ds) (hc : n ≤ c) (hC2 : Kd.C k60 w A2 n2 es) (hc2 : n2 ≤ c2) (gC : Kd.C k58 w B m ds) (gc : m ≤ d) (gC2 : Kd.C k60 w B2 m2 es) (gc2 : m2 ≤ d2) (hn : ds.length < 3518437208883) (hm : es.length < 4398046511104) :
    Calls Tryd.prog 18 #[.agg #[.int .i64 id, .int .u64 lo, .int .u64 hi, .slice A n c, .int .i64 gen, .slice A2 n2 c2], .agg #[.int .i64 id, .int .u64 lo, .int .u64 hi, .slice B m d, .int .i64 gen, .slice B2 m2 d2]] w fun e w' => e = .returned (.bool true) ∧ Below w.heap.size w w' := by
  obtain rfl : n = ds.length := hC.1.symm
  obtain rfl : n2 = es.length := hC2.1.symm
  obtain rfl : m = ds.length := gC.1.symm
  obtain rfl : m2 = es.length := gC2.1.symm
  exact stratalaw12_samePair.calls _ id lo hi A c ds gen A2 c2 es id lo hi B d ds gen B2 d2 es true w hC hc hC2 hc2 gC gc gC2 gc2 (sameP_f id lo hi gen ds es hn hm)
/-! ### twins -/
theorem twin_any (id lo hi gen : Int) (A : Option Addr) (n c : Nat) (ds : List SD) (A2 : Option Addr) (n2 c2 : Nat) (es : List SE) (w : World) (hC : Kd.C k58 w A n ds) (hc : n ≤ c) (hC2 : Kd.C k60 w A2 n2 es) (hc2 : n2 ≤ c2) (hn : ds.length < 3518437208883) (hm : es.length < 4398046511104) :
    Calls Tryd.prog 15 #[.agg #[.int .i64 id, .int .u64 lo, .int .u64 hi, .slice A n c, .int .i64 gen, .slice A2 n2 c2]] w fun e w' => ∃ (B : Option Addr) (d : Nat) (B2 : Option Addr) (d2 : Nat), e = .returned (.agg #[.int .i64 id, .int .u64 lo, .int .u64 hi, .slice B n d, .int .i64 gen, .slice B2 n2 d2]) ∧ Kd.R k58 58 w' w.heap.size (fun _ => True) (.slice B n d) ds ∧ Kd.R k60 60 w' w.heap.size (fun _ => True) (.slice B2 n2 d2) es ∧ Below w.heap.size w w' := by
  obtain rfl : n = ds.length := hC.1.symm
  obtain rfl : n2 = es.length := hC2.1.symm
  refine (stratalaw12_twin.calls id lo hi A c ds gen A2 c2 es id lo hi ds gen es w hC hc hC2 hc2 ?_).mono ?_
  · unfold stratalaw12_twin.f
    simp only [Option.bind_some, List.length_nil, List.nil_append]
    rw [if_pos (by omega), if_pos (by omega)]
  · rintro e w' ⟨v3, v5, rfl, h3, h5, hb⟩
    obtain ⟨B, d, rfl⟩ := Kd.R_slice h3
    obtain ⟨B2, d2, rfl⟩ := Kd.R_slice h5
    exact ⟨B, d, B2, d2, rfl, h3, h5, hb⟩
def outE (id gen : Int) (es : List SE) : ByteArray × Int := if gdE id gen es = true then (fileOf ltE (byE id gen es), 0) else ((⟨#[]⟩ : ByteArray), 2)
section
variable (id lo hi gen : Int) (A : Option Addr) (n c : Nat) (ds : List SD) (A2 : Option Addr) (n2 c2 : Nat) (es : List SE) (w : World)
theorem encE_p (hC : Kd.C k58 w A n ds) (hc : n ≤ c) (hC2 : Kd.C k60 w A2 n2 es) (hc2 : n2 ≤ c2) (hT : Tab w) (hn : es.length < 4398046511104) :
    Calls Tryd.prog 16 #[.agg #[.int .i64 id, .int .u64 lo, .int .u64 hi, .slice A n c, .int .i64 gen, .slice A2 n2 c2]] w fun e w' => e = .returned (.tuple #[.string (outE id gen es).1, .int .i64 (outE id gen es).2]) ∧ Below w.heap.size w w' := by
  obtain rfl : n = ds.length := hC.1.symm
  obtain rfl : n2 = es.length := hC2.1.symm
  unfold outE
  have hg := goodE_f id lo hi gen ds es (by omega) (es.length + 2) (Nat.le_refl _)
  by_cases h : gdE id gen es = true
  · rw [if_pos h]
    rw [h] at hg
    exact HImEe.yes _ id lo hi gen A c ds A2 c2 es w hC hc hC2 hc2 hT hg h
  · rw [if_neg h]
    rw [show gdE id gen es = false by simpa using h] at hg
    exact HImEe.no _ id lo hi gen A c ds A2 c2 es w hC hc hC2 hc2 hg
theorem encE_d (hC : Kd.C k58 w A n ds) (hc : n ≤ c) (hC2 : Kd.C k60 w A2 n2 es) (hc2 : n2 ≤ c2) (hn : es.length < 4398046511104) :
    Calls Tryd.prog 17 #[.agg #[.int .i64 id, .int .u64 lo, .int .u64 hi, .slice A n c, .int .i64 gen, .slice A2 n2 c2]] w fun e w' => e = .returned (.tuple #[.string (outE id gen es).1, .int .i64 (outE id gen es).2]) ∧ Below w.heap.size w w' := by
  obtain rfl : n = ds.length := hC.1.symm
  obtain rfl : n2 = es.length := hC2.1.symm
  unfold outE
  by_cases h : gdE id gen es = true
  · rw [if_pos h]
    exact HImEr.yes id lo hi gen A c ds A2 c2 es w hC hc hC2 hc2 h
  · rw [if_neg h]
    exact HImEr.no id lo hi gen A c ds A2 c2 es w hC hc hC2 hc2 (by omega) (by simpa using h)
end
/-! ### the readers -/
section
variable {b : ByteArray} {w : World}
theorem decE_p {id gen cd : Int} {es : List SE} (hb : b.size ≤ 140737488355328) (hT : Tab w) (hv : HImDe.val b = (id, gen, es)) (hc : HImDe.code b = cd) :
    Calls Tryd.prog 20 #[.string b] w fun e w' => ∃ (A : Option Addr) (n c : Nat), e = .returned (.tuple #[.agg #[.int .i64 id, .int .u64 0, .int .u64 0, .slice none 0 0, .int .i64 gen, .slice A n c], .int .i64 cd]) ∧ Kd.R k60 60 w' w.heap.size (fun _ => True) (.slice A n c) es ∧ Below w.heap.size w w' := by
  refine (HImDe.dec_any (fun id gen l hl => ⟨_, goodE_f id 0 0 gen [] l (by omega) _ (Nat.le_refl _)⟩) b w hb hT).mono ?_
  rintro e w' ⟨u, rfl, hR, hB⟩
  obtain ⟨A, c, rfl⟩ := Kd.R_slice hR
  rw [hv] at hR ⊢
  rw [hc]
  exact ⟨A, _, c, rfl, hR, hB⟩
theorem decE_d {id gen cd : Int} {es : List SE} (hb : b.size ≤ 1048576) (hv : HImDe.val b = (id, gen, es)) (hc : HImDe.code b = cd) :
    Calls Tryd.prog 21 #[.string b] w fun e w' => ∃ (A : Option Addr) (n c : Nat), e = .returned (.tuple #[.agg #[.int .i64 id, .int .u64 0, .int .u64 0, .slice none 0 0, .int .i64 gen, .slice A n c], .int .i64 cd]) ∧ Kd.R k60 60 w' w.heap.size (fun _ => True) (.slice A n c) es ∧ Below w.heap.size w w' := by
  refine (HImSe.dec_any b w hb).mono ?_
  rintro e w' ⟨u, rfl, hR, hB⟩
  obtain ⟨A, c, rfl⟩ := Kd.R_slice hR
  rw [hv] at hR ⊢
  rw [hc]
  exact ⟨A, _, c, rfl, hR, hB⟩
end
theorem vE_len (b : ByteArray) : (HImDe.val b).2.2.length ≤ 65536 := by
  by_cases ho : opn b ltE = 0
  · cases hd : dcE (ins b) with
    | none => rw [(HImDe.none_val ho hd).1]; exact Nat.zero_le _
    | some x =>
      by_cases hx : x.2 = ((ins b).size : Int)
      · rw [(HImDe.some_val ho hd hx).1]
        obtain ⟨⟨id, gen, es⟩, q⟩ := x
        exact (gdE_parts (dcE_drop hd).1).1.2.2.2.2.2
      · rw [(HImDe.short_val ho hd hx).1]; exact Nat.zero_le _
  · rw [(HImDe.out_val ho).1]; exact Nat.zero_le _
theorem rC {X : Type} {d : Kd X} {t : TypeId} {W : World} {base n c : Nat} {ok : Nat → Prop} {A : Option Addr} {xs : List X} (h : Kd.R d t W base ok (.slice A n c) xs) : Kd.C d W A n xs := by
  obtain ⟨rfl, _, h⟩ := Kd.R_reads' h
  exact h
theorem rN {X : Type} {d : Kd X} {t : TypeId} {W : World} {base n c : Nat} {ok : Nat → Prop} {A : Option Addr} {xs : List X} (h : Kd.R d t W base ok (.slice A n c) xs) : n ≤ c := (Kd.R_reads' h).2.1
theorem _root_.Go.Proofs.YtejjidggnnhgjaaDoor.HImBk.Two.swap {w W : World} {r1 r2 : Option Nat} (h : HImBk.Two w W r1 r2) : HImBk.Two w W r2 r1 := ⟨h.os, h.tape, h.output, h.size, fun k hk h1 h2 => h.block k hk h2 h1⟩
theorem R_two {X : Type} {d : Kd X} {t : TypeId} {W W' : World} {base : Nat} {v : Value} {xs : List X} {r1 : Option Nat} (h : Kd.R d t W base (fun _ => True) v xs) (ht : HImBk.Two W W' r1 none) (hr : ∀ k, r1 = some k → k < base) : Kd.R d t W' base (fun _ => True) v xs :=
  Kd.R_mono (Kd.R_step (Kd.R_bound h) (fun k hk hlt => ht.block k hlt (fun e => by have := hr k e.symm; have := hk.2.1; omega) (by simp))) (fun _ _ => trivial)
end Go.Proofs.YtejjidggnnhgjaaDoor.HImT
/- The kinds of the parameters of layer 12's statements, whole. -/
set_option linter.unusedVariables false
namespace Go.Proofs.YtejjidggnnhgjaaDoor.HKinds
open Go.RowKit Go.Proofs.YtejjidggnnhgjaaDoor.PImg Go.Proofs.YtejjidggnnhgjaaDoorW.PrintWords Go.Proofs.YtejjidggnnhgjaaDoorW.PrintLast
abbrev S58 := PImg.S58
abbrev S60 := PImg.S60
structure S46 where
  f0 : Int
  f1 : Int
  f2 : Int
  f3 : List S58
  f4 : Int
  f5 : List S60
def k46 : Kd S46 := Kd.iso (Kd.pair (Kd.int .i64) (Kd.pair (Kd.int .u64) (Kd.pair (Kd.int .u64) (Kd.pair (Kd.slice 58 PImg.k58) (Kd.pair (Kd.int .i64) (Kd.slice 60 PImg.k60)))))) (fun x : S46 => (x.f0, x.f1, x.f2, x.f3, x.f4, x.f5))
theorem pair_open {W : World} {x : S46} {cs : Array Value} (h : k46.K W x cs.toList) : ∃ (A : Option Addr) (c : Nat) (A2 : Option Addr) (c2 : Nat), cs = #[.int .i64 x.f0, .int .u64 x.f1, .int .u64 x.f2, .slice A x.f3.length c, .int .i64 x.f4, .slice A2 x.f5.length c2] ∧ x.f3.length ≤ c ∧ Kd.C PImg.k58 W A x.f3.length x.f3 ∧ x.f5.length ≤ c2 ∧ Kd.C PImg.k60 W A2 x.f5.length x.f5 := by
  obtain ⟨_, _, e, rfl, _, _, rfl, rfl, _, _, rfl, rfl, _, _, rfl, ⟨A, c, rfl, hc, hC⟩, _, _, rfl, rfl, ⟨A2, c2, rfl, hc2, hC2⟩⟩ := h
  refine ⟨A, c, A2, c2, ?_, hc, hC, hc2, hC2⟩
  apply Array.toList_inj.1
  rw [e]
  rfl
end Go.Proofs.YtejjidggnnhgjaaDoor.HKinds
/- ImageDelta of layer 12's statements, walked whole: all it compares is alike. -/
set_option linter.unusedVariables false
set_option linter.unusedSimpArgs false
namespace Go.Proofs.YtejjidggnnhgjaaDoor.HImLe
open Go.RowKit Go.Proofs.YtejjidggnnhgjaaDoor.PImg Go.Proofs.YtejjidggnnhgjaaDoor.HSum Go.Proofs.YtejjidggnnhgjaaDoor.HImP Go.Proofs.YtejjidggnnhgjaaDoor.HImD Go.Proofs.YtejjidggnnhgjaaDoor.HImE Go.Proofs.YtejjidggnnhgjaaDoor.HImBk Go.Proofs.YtejjidggnnhgjaaDoor.HImMk Go.Proofs.YtejjidggnnhgjaaDoor.HImT Go.Proofs.YtejjidggnnhgjaaDoorW.PrintWords Go.Proofs.YtejjidggnnhgjaaDoorW.PrintLast Go.Proofs.YtejjidggnnhgjaaDoorW.PrintMore Go.Proofs.YtejjidggnnhgjaaDoor.HCore
set_option maxRecDepth 100000 in
set_option maxHeartbeats 32000000 in
theorem law_any (id lo hi gen : Int) (A : Option Addr) (c : Nat) (ds : List SD) (A2 : Option Addr) (c2 : Nat) (es : List SE) (b : ByteArray) (w : World) (hC : Kd.C k58 w A ds.length ds) (hc : ds.length ≤ c) (hC2 : Kd.C k60 w A2 es.length es) (hc2 : es.length ≤ c2) (h0 : 0 ≤ lo) (hn : ds.length < 3518437208883) (hm : es.length < 4398046511104) (hs : ∀ x ∈ ds, x.f2.size ≤ 140737488351232) (hb : b.size ≤ 1048576) (hT : Tab w) :
    Calls Tryd.prog 4 #[.agg #[.int .i64 id, .int .u64 lo, .int .u64 hi, .slice A ds.length c, .int .i64 gen, .slice A2 es.length c2], .string b] w fun e w' => e = .returned (.bool true) ∧ Below w.heap.size w w' := by
  have HC := Aside0.mk hC
  have HC2 := Aside0.mk hC2
  have HSz := Aside0.mk hs
  have HTb := Aside0.mk hT
  have Hc := Aside0.mk hc
  have Hc2 := Aside0.mk hc2
  have Hb := Aside0.mk hb
  have HN1 : Aside0 (ds.length < 3518437208883) := ⟨hn⟩
  have HN2 : Aside0 (es.length < 4398046511104) := ⟨hm⟩
  clear hC hC2 hs hT hc hc2 hn hm hb
  obtain ⟨sD, HsD⟩ : ∃ s, Aside0 (outE id gen es = s) := ⟨_, ⟨rfl⟩⟩
  obtain ⟨sv, sc⟩ := sD
  obtain ⟨ia, ga, xs, HV⟩ : ∃ ia ga xs, Aside0 (HImDe.val b = (ia, ga, xs)) := ⟨_, _, _, ⟨rfl⟩⟩
  obtain ⟨cd, HCd⟩ : ∃ cd, Aside0 (HImDe.code b = cd) := ⟨_, ⟨rfl⟩⟩
  have HL6 : Aside0 (xs.length ≤ 65536) := ⟨by have := vE_len b; rw [HV.out] at this; exact this⟩
  go_enter Tryd.func4, Tryd.ntmps4
  go_wp2_with fail
  refine (twin_any id lo hi gen A _ c ds A2 _ c2 es _ (Kd.C_below HC.out (below_alloc (Below.refl _ _) _)) Hc.out (Kd.C_below HC2.out (below_alloc (Below.refl _ _) _)) Hc2.out HN1.out HN2.out).mono ?_
  rintro e w1 ⟨B1, d1, B2, d2, rfl, r1, r2, hb⟩
  have HP := Aside0.mk (blk_below (blk_new _ _) hb)
  have BL := Aside0.mk (below_step (below_alloc (Below.refl _ _) _) hb)
  have hsz : w.heap.size + 1 ≤ w1.heap.size := by have := hb.size; simpa using this
  have HS1 := Aside0.mk hsz
  have R1 : Aside0 (Kd.R k58 58 w1 (w.heap.size + 1) (fun _ => True) (.slice B1 ds.length d1) ds) := ⟨by simpa using r1⟩
  have R2 : Aside0 (Kd.R k60 60 w1 (w.heap.size + 1) (fun _ => True) (.slice B2 es.length d2) es) := ⟨by simpa using r2⟩
  clear r1 r2 hb
  go_wp2_with fail
  refine (encE_p id lo hi gen _ _ _ ds _ _ _ es _ (Kd.C_below (rC R1.out) (below_alloc (Below.refl _ _) _)) (rN R1.out) (Kd.C_below (rC R2.out) (below_alloc (Below.refl _ _) _)) (rN R2.out) (Tab.below HTb.out (below_step BL.out (below_alloc (Below.refl _ _) _))) HN2.out).mono ?_
  rintro e w2 ⟨he, hb⟩
  have he2 : e = .returned (.tuple #[.string sv, .int .i64 sc]) := by rw [he, HsD.out]
  clear he
  subst he2
  have HG := Aside0.mk (blk_below (blk_new _ _) hb)
  replace HP := Aside0.mk (blk_below (blk_alloc HP.out _) hb)
  replace R1 := Aside0.mk (Kd.R_below (Kd.R_below R1.out (below_alloc (Below.refl _ _) _)) hb)
  replace R2 := Aside0.mk (Kd.R_below (Kd.R_below R2.out (below_alloc (Below.refl _ _) _)) hb)
  replace BL := Aside0.mk (below_step (below_step BL.out (below_alloc (Below.refl _ _) _)) hb)
  clear hb
  have p0 : _ = some (Value.int .i64 id) := (blk_cell HP.out 0).trans rfl
  have p1 : _ = some (Value.int .u64 lo) := (blk_cell HP.out 1).trans rfl
  have p2 : _ = some (Value.int .u64 hi) := (blk_cell HP.out 2).trans rfl
  have p3 : _ = some (Value.slice A ds.length c) := (blk_cell HP.out 3).trans rfl
  have p4 : _ = some (Value.int .i64 gen) := (blk_cell HP.out 4).trans rfl
  have p5 : _ = some (Value.slice A2 es.length c2) := (blk_cell HP.out 5).trans rfl
  go_wp2_with fail
  refine (encE_d id lo hi gen _ _ _ ds _ _ _ es _ (Kd.C_below HC.out BL.out) Hc.out (Kd.C_below HC2.out BL.out) Hc2.out HN2.out).mono ?_
  rintro e w3 ⟨he, hb⟩
  have he2 : e = .returned (.tuple #[.string sv, .int .i64 sc]) := by rw [he, HsD.out]
  clear he
  subst he2
  replace HP := Aside0.mk (blk_below (HP.out) hb)
  replace HG := Aside0.mk (blk_below (HG.out) hb)
  replace R1 := Aside0.mk (Kd.R_below (R1.out) hb)
  replace R2 := Aside0.mk (Kd.R_below (R2.out) hb)
  replace BL := Aside0.mk (below_step (BL.out) hb)
  clear hb p0 p1 p2 p3 p4 p5
  have p0 : _ = some (Value.int .i64 id) := (blk_cell HP.out 0).trans rfl
  have p1 : _ = some (Value.int .u64 lo) := (blk_cell HP.out 1).trans rfl
  have p2 : _ = some (Value.int .u64 hi) := (blk_cell HP.out 2).trans rfl
  have p3 : _ = some (Value.slice A ds.length c) := (blk_cell HP.out 3).trans rfl
  have p4 : _ = some (Value.int .i64 gen) := (blk_cell HP.out 4).trans rfl
  have p5 : _ = some (Value.slice A2 es.length c2) := (blk_cell HP.out 5).trans rfl
  have g0 : _ = some (Value.int .i64 id) := (blk_cell HG.out 0).trans rfl
  have g1 : _ = some (Value.int .u64 lo) := (blk_cell HG.out 1).trans rfl
  have g2 : _ = some (Value.int .u64 hi) := (blk_cell HG.out 2).trans rfl
  have g3 : _ = some (Value.slice B1 ds.length d1) := (blk_cell HG.out 3).trans rfl
  have g4 : _ = some (Value.int .i64 gen) := (blk_cell HG.out 4).trans rfl
  have g5 : _ = some (Value.slice B2 es.length d2) := (blk_cell HG.out 5).trans rfl
  go_wp2_with (first | (go_at_call 10; refine (num_any _ _).mono ?_; rintro e w' ⟨rfl, rfl⟩) | fail)
  refine (same_pair id lo hi gen _ _ _ ds _ _ _ es _ _ _ _ _ _ _ (rC R1.out) (rN R1.out) (rC R2.out) (rN R2.out) (Kd.C_below HC.out BL.out) Hc.out (Kd.C_below HC2.out BL.out) Hc2.out HN1.out HN2.out).mono ?_
  rintro e w4 ⟨rfl, hb⟩
  replace HG := Aside0.mk (blk_below (HG.out) hb)
  replace R1 := Aside0.mk (Kd.R_below (R1.out) hb)
  replace R2 := Aside0.mk (Kd.R_below (R2.out) hb)
  replace BL := Aside0.mk (below_step (BL.out) hb)
  clear hb HP
  clear p0 p1 p2 p3 p4 p5 g0 g1 g2 g3 g4 g5
  have g0 : _ = some (Value.int .i64 id) := (blk_cell HG.out 0).trans rfl
  have g1 : _ = some (Value.int .u64 lo) := (blk_cell HG.out 1).trans rfl
  have g2 : _ = some (Value.int .u64 hi) := (blk_cell HG.out 2).trans rfl
  have g3 : _ = some (Value.slice B1 ds.length d1) := (blk_cell HG.out 3).trans rfl
  have g4 : _ = some (Value.int .i64 gen) := (blk_cell HG.out 4).trans rfl
  have g5 : _ = some (Value.slice B2 es.length d2) := (blk_cell HG.out 5).trans rfl
  go_wp2_with fail
  refine (back_any id lo hi gen _ _ _ ds _ _ _ es _ (w.heap.size + 1) R1.out R2.out (by have := blk_lt HG.out; have := HS1.out; omega) (by have := HN1.out; omega) (by have := HN2.out; omega) HSz.out).mono ?_
  rintro e w5 ⟨rfl, hk⟩
  obtain ⟨kb, kt, l1, l2, k1, k2, k3⟩ := hk
  replace HG := Aside0.mk ((kt.block _ (blk_lt HG.out) (Kd.R_ne R1.out HG.out (by decide)) (Kd.R_ne R2.out HG.out (by decide))).trans HG.out)
  replace BL := Aside0.mk (below_weaken BL.out (Nat.le_succ _) kb)
  have hl1 : l1.length < 3518437208883 := by have e1 := (Kd.R_reads' k1).1; have := HN1.out; omega
  have hl2 : l2.length < 4398046511104 := by have e1 := (Kd.R_reads' k2).1; have := HN2.out; omega
  have HL1 := Aside0.mk hl1
  have HL2 := Aside0.mk hl2
  replace R1 := Aside0.mk k1
  replace R2 := Aside0.mk k2
  clear kb kt k1 k2 k3 hl1 hl2
  clear g0 g1 g2 g3 g4 g5
  have g0 : _ = some (Value.int .i64 id) := (blk_cell HG.out 0).trans rfl
  have g1 : _ = some (Value.int .u64 lo) := (blk_cell HG.out 1).trans rfl
  have g2 : _ = some (Value.int .u64 hi) := (blk_cell HG.out 2).trans rfl
  have g3 : _ = some (Value.slice B1 ds.length d1) := (blk_cell HG.out 3).trans rfl
  have g4 : _ = some (Value.int .i64 gen) := (blk_cell HG.out 4).trans rfl
  have g5 : _ = some (Value.slice B2 es.length d2) := (blk_cell HG.out 5).trans rfl
  obtain ⟨sD2, HsD2⟩ : ∃ s, Aside0 (outE id gen l2 = s) := ⟨_, ⟨rfl⟩⟩
  obtain ⟨sv2, sc2⟩ := sD2
  go_wp2_with fail
  refine (encE_p id lo hi gen _ _ _ l1 _ _ _ l2 _ (rC R1.out) (rN R1.out) (rC R2.out) (rN R2.out) (Tab.below HTb.out BL.out) HL2.out).mono ?_
  rintro e w6 ⟨he, hb⟩
  have he2 : e = .returned (.tuple #[.string sv2, .int .i64 sc2]) := by rw [he, HsD2.out]
  clear he
  subst he2
  replace HG := Aside0.mk (blk_below (HG.out) hb)
  replace R1 := Aside0.mk (Kd.R_below (R1.out) hb)
  replace R2 := Aside0.mk (Kd.R_below (R2.out) hb)
  replace BL := Aside0.mk (below_step (BL.out) hb)
  clear hb
  clear g0 g1 g2 g3 g4 g5
  have g0 : _ = some (Value.int .i64 id) := (blk_cell HG.out 0).trans rfl
  have g1 : _ = some (Value.int .u64 lo) := (blk_cell HG.out 1).trans rfl
  have g2 : _ = some (Value.int .u64 hi) := (blk_cell HG.out 2).trans rfl
  have g3 : _ = some (Value.slice B1 ds.length d1) := (blk_cell HG.out 3).trans rfl
  have g4 : _ = some (Value.int .i64 gen) := (blk_cell HG.out 4).trans rfl
  have g5 : _ = some (Value.slice B2 es.length d2) := (blk_cell HG.out 5).trans rfl
  go_wp2_with fail
  refine (twin_any id lo hi gen _ _ _ l1 _ _ _ l2 _ (rC R1.out) (rN R1.out) (rC R2.out) (rN R2.out) HL1.out HL2.out).mono ?_
  rintro e w7 ⟨D1, q1, D2, q2, rfl, r1, r2, hb⟩
  have T1 := Aside0.mk r1
  have T2 := Aside0.mk r2
  clear r1 r2
  replace BL := Aside0.mk (below_step BL.out hb)
  clear hb
  clear g0 g1 g2 g3 g4 g5
  clear HG R1 R2
  go_wp2_with fail
  refine (encE_d id lo hi gen _ _ _ l1 _ _ _ l2 _ (rC T1.out) (rN T1.out) (rC T2.out) (rN T2.out) HL2.out).mono ?_
  rintro e w8 ⟨he, hb⟩
  have he2 : e = .returned (.tuple #[.string sv2, .int .i64 sc2]) := by rw [he, HsD2.out]
  clear he
  subst he2
  replace BL := Aside0.mk (below_step BL.out hb)
  clear hb T1 T2
  go_wp2_with (first | (go_at_call 10; refine (num_any _ _).mono ?_; rintro e w' ⟨rfl, rfl⟩) | fail)
  refine (decE_p (Nat.le_trans Hb.out (by decide)) (Tab.below HTb.out BL.out) HV.out HCd.out).mono ?_
  rintro e w9 ⟨Q, qn, qc, rfl, rq, hb⟩
  have RQ := Aside0.mk rq
  have HWb : Aside0 (w.heap.size ≤ w8.heap.size) := ⟨BL.out.size⟩
  have HQb : Aside0 (∀ k, (Value.slice Q qn qc).ownBlock = some k → k < w9.heap.size + 1) := ⟨fun k hk => Nat.lt_succ_of_lt (own_lt (Kd.R_own rq).choose_spec k hk)⟩
  replace BL := Aside0.mk (below_step BL.out hb)
  clear rq hb
  go_wp2_with fail
  refine (decE_p (Nat.le_trans Hb.out (by decide)) (Tab.below HTb.out (below_step BL.out (below_alloc (Below.refl _ _) _))) HV.out HCd.out).mono ?_
  rintro e w10 ⟨Q2, qn2, qc2, rfl, rq, hb⟩
  have RQ2 : Aside0 (Kd.R k60 60 w10 (w9.heap.size + 1) (fun _ => True) (.slice Q2 qn2 qc2) xs) := ⟨by simpa using rq⟩
  have HQ := Aside0.mk (blk_below (blk_new _ _) hb)
  have HQs : Aside0 (w9.heap.size + 1 ≤ w10.heap.size) := ⟨by have := hb.size; simpa using this⟩
  replace RQ := Aside0.mk (Kd.R_below (Kd.R_below RQ.out (below_alloc (Below.refl _ _) _)) hb)
  replace BL := Aside0.mk (below_step (below_step BL.out (below_alloc (Below.refl _ _) _)) hb)
  clear rq hb
  go_wp2_with fail
  refine (decE_d Hb.out HV.out HCd.out).mono ?_
  rintro e w11 ⟨Q3, qn3, qc3, rfl, rq, hb⟩
  have RQ3 : Aside0 (Kd.R k60 60 w11 (w9.heap.size + 1) (fun _ => True) (.slice Q3 qn3 qc3) xs) := ⟨Kd.R_lower rq (by have := HQs.out; simp; omega)⟩
  have HQ2 := Aside0.mk (blk_below (blk_new _ _) hb)
  replace HQ := Aside0.mk (blk_below (blk_alloc HQ.out _) hb)
  replace RQ := Aside0.mk (Kd.R_below (Kd.R_below RQ.out (below_alloc (Below.refl _ _) _)) hb)
  replace RQ2 := Aside0.mk (Kd.R_below (Kd.R_below RQ2.out (below_alloc (Below.refl _ _) _)) hb)
  replace BL := Aside0.mk (below_step (below_step BL.out (below_alloc (Below.refl _ _) _)) hb)
  clear rq hb
  have q0 : _ = some (Value.int .i64 ia) := (blk_cell (blk_alloc HQ.out (.cells #[.int .i64 ia, .int .u64 0, .int .u64 0, .slice none 0 0, .int .i64 ga, .slice Q3 qn3 qc3] 46)) 0).trans rfl
  have q1 : _ = some (Value.int .u64 0) := (blk_cell (blk_alloc HQ.out (.cells #[.int .i64 ia, .int .u64 0, .int .u64 0, .slice none 0 0, .int .i64 ga, .slice Q3 qn3 qc3] 46)) 1).trans rfl
  have q2 : _ = some (Value.int .u64 0) := (blk_cell (blk_alloc HQ.out (.cells #[.int .i64 ia, .int .u64 0, .int .u64 0, .slice none 0 0, .int .i64 ga, .slice Q3 qn3 qc3] 46)) 2).trans rfl
  have q3 : _ = some (Value.slice none 0 0) := (blk_cell (blk_alloc HQ.out (.cells #[.int .i64 ia, .int .u64 0, .int .u64 0, .slice none 0 0, .int .i64 ga, .slice Q3 qn3 qc3] 46)) 3).trans rfl
  have q4 : _ = some (Value.int .i64 ga) := (blk_cell (blk_alloc HQ.out (.cells #[.int .i64 ia, .int .u64 0, .int .u64 0, .slice none 0 0, .int .i64 ga, .slice Q3 qn3 qc3] 46)) 4).trans rfl
  have q5 : _ = some (Value.slice Q qn qc) := (blk_cell (blk_alloc HQ.out (.cells #[.int .i64 ia, .int .u64 0, .int .u64 0, .slice none 0 0, .int .i64 ga, .slice Q3 qn3 qc3] 46)) 5).trans rfl
  go_wp2_with (first | (go_at_call 10; refine (num_any _ _).mono ?_; rintro e w' ⟨rfl, rfl⟩) | fail)
  refine (same_pair ia 0 0 ga _ _ _ ([] : List SD) _ _ _ xs _ _ _ _ _ _ _ (rC (Kd.R_nil k58 58 _ 0 (fun _ => True))) (Nat.le_refl 0) (Kd.C_below (rC RQ.out) (below_alloc (Below.refl _ _) _)) (rN RQ.out) (rC (Kd.R_nil k58 58 _ 0 (fun _ => True))) (Nat.le_refl 0) (Kd.C_below (rC RQ3.out) (below_alloc (Below.refl _ _) _)) (rN RQ3.out) (by decide) (Nat.lt_of_le_of_lt HL6.out (by decide))).mono ?_
  rintro e w12 ⟨rfl, hb⟩
  clear q0 q1 q2 q3 q4 q5
  have HR := Aside0.mk (blk_below (blk_new _ _) hb)
  replace HQ := Aside0.mk (blk_below (blk_alloc HQ.out _) hb)
  replace HQ2 := Aside0.mk (blk_below (blk_alloc HQ2.out _) hb)
  replace RQ := Aside0.mk (Kd.R_below (Kd.R_below RQ.out (below_alloc (Below.refl _ _) _)) hb)
  replace RQ2 := Aside0.mk (Kd.R_below (Kd.R_below RQ2.out (below_alloc (Below.refl _ _) _)) hb)
  replace RQ3 := Aside0.mk (Kd.R_below (Kd.R_below RQ3.out (below_alloc (Below.refl _ _) _)) hb)
  replace BL := Aside0.mk (below_step (below_step BL.out (below_alloc (Below.refl _ _) _)) hb)
  clear hb
  have h0 : _ = some (Value.int .i64 ia) := (blk_cell HQ2.out 0).trans rfl
  have h1 : _ = some (Value.int .u64 0) := (blk_cell HQ2.out 1).trans rfl
  have h2 : _ = some (Value.int .u64 0) := (blk_cell HQ2.out 2).trans rfl
  have h3 : _ = some (Value.slice none 0 0) := (blk_cell HQ2.out 3).trans rfl
  have h4 : _ = some (Value.int .i64 ga) := (blk_cell HQ2.out 4).trans rfl
  have h5 : _ = some (Value.slice Q2 qn2 qc2) := (blk_cell HQ2.out 5).trans rfl
  have r0 : _ = some (Value.int .i64 ia) := (blk_cell HR.out 0).trans rfl
  have r1 : _ = some (Value.int .u64 0) := (blk_cell HR.out 1).trans rfl
  have r2 : _ = some (Value.int .u64 0) := (blk_cell HR.out 2).trans rfl
  have r3 : _ = some (Value.slice none 0 0) := (blk_cell HR.out 3).trans rfl
  have r4 : _ = some (Value.int .i64 ga) := (blk_cell HR.out 4).trans rfl
  have r5 : _ = some (Value.slice Q3 qn3 qc3) := (blk_cell HR.out 5).trans rfl
  go_wp2_with (first | (go_at_call 10; refine (num_any _ _).mono ?_; rintro e w' ⟨rfl, rfl⟩) | fail)
  refine (same_pair ia 0 0 ga _ _ _ ([] : List SD) _ _ _ xs _ _ _ _ _ _ _ (rC (Kd.R_nil k58 58 _ 0 (fun _ => True))) (Nat.le_refl 0) (rC RQ2.out) (rN RQ2.out) (rC (Kd.R_nil k58 58 _ 0 (fun _ => True))) (Nat.le_refl 0) (rC RQ3.out) (rN RQ3.out) (by decide) (Nat.lt_of_le_of_lt HL6.out (by decide))).mono ?_
  rintro e w13 ⟨rfl, hb⟩
  clear h0 h1 h2 h3 h4 h5 r0 r1 r2 r3 r4 r5
  replace HQ := Aside0.mk (blk_below (HQ.out) hb)
  replace HQ2 := Aside0.mk (blk_below (HQ2.out) hb)
  replace HR := Aside0.mk (blk_below (HR.out) hb)
  replace RQ := Aside0.mk (Kd.R_below (RQ.out) hb)
  replace RQ2 := Aside0.mk (Kd.R_below (RQ2.out) hb)
  replace RQ3 := Aside0.mk (Kd.R_below (RQ3.out) hb)
  replace BL := Aside0.mk (below_step (BL.out) hb)
  clear hb
  have q0 : _ = some (Value.int .i64 ia) := (blk_cell HQ.out 0).trans rfl
  have q1 : _ = some (Value.int .u64 0) := (blk_cell HQ.out 1).trans rfl
  have q2 : _ = some (Value.int .u64 0) := (blk_cell HQ.out 2).trans rfl
  have q3 : _ = some (Value.slice none 0 0) := (blk_cell HQ.out 3).trans rfl
  have q4 : _ = some (Value.int .i64 ga) := (blk_cell HQ.out 4).trans rfl
  have q5 : _ = some (Value.slice Q qn qc) := (blk_cell HQ.out 5).trans rfl
  go_wp2_with (first | (go_at_call 10; refine (num_any _ _).mono ?_; rintro e w' ⟨rfl, rfl⟩) | fail)
  refine (marked_any ia 0 0 ga _ _ _ ([] : List SD) _ _ _ xs _ w.heap.size (Kd.R_nil k58 58 _ w.heap.size (fun _ => True)) (Kd.R_lower RQ.out HWb.out) BL.out.size (by decide) (Nat.le_trans HL6.out (by decide))).mono ?_
  rintro e w14 ⟨rfl, ht, hb⟩
  replace HQ2 := Aside0.mk ((ht.block _ (blk_lt HQ2.out) (by simp [Value.ownBlock]) (Kd.R_ne RQ.out HQ2.out (by decide))).trans HQ2.out)
  replace HR := Aside0.mk ((ht.block _ (blk_lt HR.out) (by simp [Value.ownBlock]) (Kd.R_ne RQ.out HR.out (by decide))).trans HR.out)
  replace RQ2 := Aside0.mk (R_two RQ2.out ht.swap HQb.out)
  replace RQ3 := Aside0.mk (R_two RQ3.out ht.swap HQb.out)
  replace BL := Aside0.mk (below_weaken BL.out (Nat.le_refl _) hb)
  clear ht hb
  clear q0 q1 q2 q3 q4 q5
  have h0 : _ = some (Value.int .i64 ia) := (blk_cell HQ2.out 0).trans rfl
  have h1 : _ = some (Value.int .u64 0) := (blk_cell HQ2.out 1).trans rfl
  have h2 : _ = some (Value.int .u64 0) := (blk_cell HQ2.out 2).trans rfl
  have h3 : _ = some (Value.slice none 0 0) := (blk_cell HQ2.out 3).trans rfl
  have h4 : _ = some (Value.int .i64 ga) := (blk_cell HQ2.out 4).trans rfl
  have h5 : _ = some (Value.slice Q2 qn2 qc2) := (blk_cell HQ2.out 5).trans rfl
  have r0 : _ = some (Value.int .i64 ia) := (blk_cell HR.out 0).trans rfl
  have r1 : _ = some (Value.int .u64 0) := (blk_cell HR.out 1).trans rfl
  have r2 : _ = some (Value.int .u64 0) := (blk_cell HR.out 2).trans rfl
  have r3 : _ = some (Value.slice none 0 0) := (blk_cell HR.out 3).trans rfl
  have r4 : _ = some (Value.int .i64 ga) := (blk_cell HR.out 4).trans rfl
  have r5 : _ = some (Value.slice Q3 qn3 qc3) := (blk_cell HR.out 5).trans rfl
  go_wp2_with fail
  refine (same_pair ia 0 0 ga _ _ _ ([] : List SD) _ _ _ xs _ _ _ _ _ _ _ (rC (Kd.R_nil k58 58 _ 0 (fun _ => True))) (Nat.le_refl 0) (rC RQ2.out) (rN RQ2.out) (rC (Kd.R_nil k58 58 _ 0 (fun _ => True))) (Nat.le_refl 0) (rC RQ3.out) (rN RQ3.out) (by decide) (Nat.lt_of_le_of_lt HL6.out (by decide))).mono ?_
  rintro e w15 ⟨rfl, hb⟩
  replace BL := Aside0.mk (below_step BL.out hb)
  go_wp2
  go_ret
  exact ⟨rfl, BL.out⟩
theorem walk (x : HKinds.S46) (cs : Array Value) (b : ByteArray) (W : World) (hK : (HKinds.k46).K W x cs.toList) (q1 : (Lit.int .u64 x.f1).wf = true) (q3 : x.f3.length * 40 ≤ 140737488351232 ∧ ∀ y ∈ x.f3, (Lit.int .u64 y.f0).wf = true ∧ y.f1.size ≤ 140737488351232 ∧ y.f2.size ≤ 140737488351232) (q5 : x.f5.length * 32 ≤ 140737488351232 ∧ ∀ y ∈ x.f5, (Lit.int .u64 y.f0).wf = true ∧ (Lit.int .u64 y.f1).wf = true ∧ y.f2.size ≤ 140737488351232) (u1 : b.size ≤ 1048576) (hT : Tab W) :
    Calls Tryd.prog 4 #[.agg cs, .string b] W fun e w' => e = .returned (.bool true) ∧ Below W.heap.size W w' := by
  obtain ⟨A, c, A2, c2, rfl, hc, hC, hc2, hC2⟩ := HKinds.pair_open hK
  exact law_any x.f0 x.f1 x.f2 x.f4 A c x.f3 A2 c2 x.f5 b W hC hc hC2 hc2 (rng_u64 q1).1 (by have := q3.1; omega) (by have := q5.1; omega) (fun y hy => (q3.2 y hy).2.2) u1 hT
end Go.Proofs.YtejjidggnnhgjaaDoor.HImLe
/- What the row's reading of an argument gives, in the words of kinds: numbers, truths, texts, slices of whatever depth, structs of any number of fields, each with its bounds out of the row's own weights. -/
set_option linter.unusedVariables false
set_option linter.unusedSimpArgs false
namespace Go.Proofs.YtejjidggnnhgjaaDoor.HOpen
open Go.ChangeShapes Go.WideShapes Go.Deep Go.Proofs.YtejjidggnnhgjaaDoorW.PrintWords
/-- A reading of type t, within the reach, gives a datum of kind d that meets Q. -/
def Opens {α : Type} (P : Program) (t : TypeId) (d : Kd α) (Q : α → Prop) : Prop :=
  ∀ {H : Type} (enc : TypeId × Value → H) (w : World) (base : Nat) (spare : Nat → Bool) (held : Bool) (fuel : Nat) (cs : List Value) (D : DataW H) (ps : List MemPlace),
    DataW.trod enc P w base spare held fuel t cs = some (D, ps) → (∀ n ∈ D.weights P t, n ≤ reachBytes) → ∃ x, d.K w x cs ∧ Q x
theorem opens_int {P : Program} {t : TypeId} {k : IntKind} (h : P.underlying t = some (.int k)) : Opens P t (Kd.int k) (fun n => (Lit.int k n).wf = true) := by
  intro H enc w base spare held fuel cs D ps ht hw
  obtain ⟨n, rfl, hx, wf⟩ := DataW.trod_int h ht
  exact ⟨n, rfl, wf⟩
theorem opens_string {P : Program} {t : TypeId} (h : P.underlying t = some .string) : Opens P t Kd.string (fun s => s.size ≤ 140737488351232) := by
  intro H enc w base spare held fuel cs D ps ht hw
  obtain ⟨s, rfl, hx, _⟩ := DataW.trod_string h ht
  obtain ⟨rfl, _⟩ := Prod.mk.inj hx
  refine ⟨s, rfl, ?_⟩
  have := hw s.data.toList.length (by simp [DataW.weights])
  rw [Array.length_toList] at this
  exact this
theorem weights_all {H : Type} {P : Program} {e : TypeId} : ∀ {l : List (DataW H)} {d : DataW H}, d ∈ l → ∀ n ∈ d.weights P e, n ∈ DataW.weightsAll P e l
  | d0 :: l, d, hd, n, hn => by
    simp only [DataW.weightsAll, List.mem_append]
    rcases List.mem_cons.1 hd with rfl | hd
    · exact Or.inl hn
    · exact Or.inr (weights_all hd n hn)
theorem list_choose {α : Type} {p : Nat → α → Prop} : ∀ n, (∀ i, i < n → ∃ x, p i x) → ∃ xs : List α, xs.length = n ∧ ∀ i x, xs[i]? = some x → p i x
  | 0, _ => ⟨[], rfl, fun i x h => by simp at h⟩
  | n + 1, h => by
    obtain ⟨xs, hl, hx⟩ := list_choose n fun i hi => h i (by omega)
    obtain ⟨x, hp⟩ := h n (by omega)
    refine ⟨xs ++ [x], by rw [List.length_append, hl]; rfl, fun i y hy => ?_⟩
    by_cases hi : i < n
    · rw [List.getElem?_append_left (by omega)] at hy
      exact hx i y hy
    · have hlt := (List.getElem?_eq_some_iff.1 hy).1
      rw [List.length_append, hl, List.length_singleton] at hlt
      obtain rfl : i = n := by omega
      rw [List.getElem?_append_right (by omega), hl, Nat.sub_self] at hy
      simp at hy
      subst hy
      exact hp
theorem opens_slice {α : Type} {P : Program} {t e : TypeId} {e' B : Nat} {d : Kd α} {Q : α → Prop} (h : P.underlying t = some (.slice e)) (hd : Opens P e d Q) (hc : P.cellsOf e = d.sz) (hB : P.bytesOf e = B) :
    Opens P t (Kd.slice e' d) (fun xs => xs.length * B ≤ 140737488351232 ∧ ∀ x ∈ xs, Q x) := by
  intro H enc w base spare held fuel cs D ps ht hw
  rcases open_slice h ht with ⟨rfl, hx⟩ | ⟨a, len, cap, m, n, Dt, Pl, rfl, hb, hl, hm, hmm, hx, hel⟩
  · exact ⟨[], ⟨none, 0, rfl, Nat.le_refl _, Kd.C_nil d w⟩, by simp, by simp⟩
  obtain ⟨rfl, rfl⟩ := Prod.mk.inj hx
  have hlm : len ≤ m := by rw [hmm]; split <;> omega
  have hwi : ∀ i, i < len → ∀ q ∈ (Dt i).weights P e, q ≤ reachBytes := fun i hi q hq => hw q (by
    simp only [DataW.weights, h, List.mem_cons, List.mem_append]
    exact Or.inr (Or.inl (weights_all (d := Dt i) (List.mem_map.2 ⟨i, List.mem_range.2 hi, rfl⟩) q hq)))
  have hlen : len * B ≤ 140737488351232 := by
    have z := hw ((((List.range len).map Dt).length + ((List.range (m - len)).map fun j => Dt (len + j)).length) * P.bytesOf e) (by simp [DataW.weights, h])
    rw [hB, List.length_map, List.length_range] at z
    exact Nat.le_trans (Nat.mul_le_mul_right _ (by omega)) z
  obtain ⟨xs, hxl, hxs⟩ := list_choose (p := fun i x => Q x ∧ ∃ cs', w.cells? base (a.add (i * P.cellsOf e)) (P.cellsOf e) = some cs' ∧ d.K w x cs') len fun i hi => by
    obtain ⟨cs', h1, h2⟩ := hel i (by omega)
    obtain ⟨x, hk, hq⟩ := hd enc w base spare held n cs' (Dt i) (Pl i) h2 (hwi i hi)
    exact ⟨x, hq, cs', h1, hk⟩
  subst hxl
  refine ⟨xs, ⟨some a, cap, rfl, hl, rfl, ?_, fun _ => ⟨a, rfl, fun j p hj => ?_⟩⟩, hlen, fun x hx => ?_⟩
  · have : maxLen = 9223372036854775807 := rfl
    omega
  · obtain ⟨_, cs', h1, hk⟩ := hxs j p hj
    obtain ⟨_, hlen', hcell⟩ := World.cells?_some h1
    refine ⟨cs', d.K_len hk, hk, fun i u hu => ?_⟩
    have hi : i < P.cellsOf e := by rw [← hlen']; exact (List.getElem?_eq_some_iff.1 hu).1
    have := hcell i hi
    rw [Go.Deep.add_add, hu, hc] at this
    exact this
  · obtain ⟨i, hi⟩ := List.getElem?_of_mem hx
    exact (hxs i x hi).1
/-- The fields fs, whose cells begin at o. -/
def OpensFs {α : Type} (P : Program) (fs : List Field) (o : Nat) (d : Kd α) (Q : α → Prop) : Prop :=
  ∀ {H : Type} (enc : TypeId × Value → H) (w : World) (base : Nat) (spare : Nat → Bool) (held : Bool) (n : Nat) (cs : List Value) (xs : List (DataW H × List MemPlace)),
    xs.length = fs.length → (∀ (i : Nat) (f : Field), fs[i]? = some f → DataW.trod enc P w base spare held n f.type ((cs.drop f.offset).take (P.cellsOf f.type)) = xs[i]?) →
    (∀ q ∈ DataW.weightsEach P (fs.map (·.type)) (xs.map (·.1)), q ≤ reachBytes) → ∃ x, d.K w x ((cs.drop o).take d.sz) ∧ Q x
theorem opens_one {α : Type} {P : Program} {f : Field} {o : Nat} {d : Kd α} {Q : α → Prop} (hd : Opens P f.type d Q) (hc : P.cellsOf f.type = d.sz) (ho : f.offset = o) : OpensFs P [f] o d Q := by
  intro H enc w base spare held n cs xs hl hx hw
  match xs, hl with
  | [y], _ =>
    have h0 := hx 0 f rfl
    rw [hc, ho] at h0
    exact hd enc w base spare held n _ y.1 y.2 h0 (fun q hq => hw q (by simp [DataW.weightsEach, hq]))
theorem opens_cons {α β : Type} {P : Program} {f : Field} {fs : List Field} {o o' : Nat} {d : Kd α} {d' : Kd β} {Q : α → Prop} {Q' : β → Prop} (hd : Opens P f.type d Q) (hc : P.cellsOf f.type = d.sz) (ho : f.offset = o) (hr : OpensFs P fs o' d' Q') (ho' : o' = o + d.sz) :
    OpensFs P (f :: fs) o (Kd.pair d d') (fun x => Q x.1 ∧ Q' x.2) := by
  intro H enc w base spare held n cs xs hl hx hw
  match xs, hl with
  | y :: ys, hl =>
    have h0 := hx 0 f rfl
    rw [hc, ho] at h0
    obtain ⟨x, hk, hq⟩ := hd enc w base spare held n _ y.1 y.2 h0 (fun q hq => hw q (by simp [DataW.weightsEach, hq]))
    obtain ⟨x', hk', hq'⟩ := hr enc w base spare held n cs ys (by simpa using hl) (fun i g hg => by have := hx (i + 1) g hg; simpa using this) (fun q hq => hw q (by simp only [List.map_cons, DataW.weightsEach, List.mem_append]; exact Or.inr hq))
    refine ⟨(x, x'), ⟨_, _, ?_, hk, hk'⟩, hq, hq'⟩
    rw [ho', ← List.drop_drop]
    exact List.take_add
theorem opens_struct {α : Type} {P : Program} {t : TypeId} {fs : Array Field} {d : Kd α} {Q : α → Prop} (h : P.underlying t = some (.struct fs)) (hf : OpensFs P fs.toList 0 d Q) (hc : P.cellsOf t = d.sz) : Opens P t d Q := by
  intro H enc w base spare held fuel cs D ps ht hw
  obtain ⟨xs, n, _, hx, hl, hlen, hfs⟩ := DataW.trod_struct h ht
  obtain ⟨rfl, rfl⟩ := Prod.mk.inj hx
  obtain ⟨x, hk, hq⟩ := hf enc w base spare held n cs xs (by simpa using hlen) (fun i f hf => hfs i f (by simpa using hf)) (fun q hq => hw q (by simpa [DataW.weights, h] using hq))
  refine ⟨x, ?_, hq⟩
  rwa [List.drop_zero, List.take_of_length_le (by omega)] at hk
theorem opens_iso {α β : Type} {P : Program} {t : TypeId} {d : Kd α} {Q : α → Prop} (f : β → α) (g : α → β) (hfg : ∀ a, f (g a) = a) (h : Opens P t d Q) : Opens P t (Kd.iso d f) (fun y => Q (f y)) := by
  intro H enc w base spare held fuel cs D ps ht hw
  obtain ⟨x, hk, hq⟩ := h enc w base spare held fuel cs D ps ht hw
  refine ⟨g x, ?_, ?_⟩
  · show d.K w (f (g x)) cs
    rw [hfg]
    exact hk
  · show Q (f (g x))
    rw [hfg]
    exact hq
/-- An argument of a law. -/
theorem opens_arg {α : Type} {P : Program} {H : Type} {enc : TypeId × Value → H} {w : World} {base : Nat} {spare : Nat → Bool} {held : Bool} {t : TypeId} {v : Value} {D : DataW H} {ps : List MemPlace} {ts : List TypeId} {ds : List (DataW H)} {j : Nat} {d : Kd α} {Q : α → Prop}
    (hd : Opens P t d Q) (h : DataW.Trod enc P w base spare held t v D ps) (hsz : (DataW.weightsEach P ts ds).all (· ≤ reachBytes) = true) (ht : ts[j]? = some t) (hD : ds[j]? = some D) : ∃ x, d.K w x v.cells.toList ∧ Q x := by
  obtain ⟨fuel, hf⟩ := h
  exact hd enc w base spare held fuel _ D ps hf fun n hn => by
    have := List.all_eq_true.1 hsz _ (DataW.weights_mem_each ht hD n hn)
    simpa using this
end Go.Proofs.YtejjidggnnhgjaaDoor.HOpen
