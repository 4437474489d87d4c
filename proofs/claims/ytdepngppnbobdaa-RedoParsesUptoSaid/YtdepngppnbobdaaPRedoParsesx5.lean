-- Written by the kit's print.py, called by xprint.py (a helper of this repo); some functions are taken from texts of this seat that were proved by hand.
import Derived.Test.YtdepngppnbobdaaHGiv
import Derived.Test.YtdepngppnbobdaaPRedx0
import Derived.Test.YtdepngppnbobdaaPRedx1
import Derived.Test.YtdepngppnbobdaaPRedx2
import Derived.Test.YtdepngppnbobdaaPRedx3
import Derived.Test.YtdepngppnbobdaaPRedx4
import Derived.Test.YtdepngppnbobdaaPRedx5
import Derived.Test.YtdepngppnbobdaaProg
import Derived.Below
import Derived.Deep.Draws
import Derived.Deep.AppendLies
import Derived.Maps.AppendAt
import Derived.OwnWalk
import Derived.Laws.BytesArg
import Derived.Laws.MakeOwn
import Derived.Laws.OwnMore
import Derived.Deep.OwnRows
import Derived.Tactics
import Derived.Lib.ConvBytes
import Derived.Laws.Slices
import Derived.WalkKit
import Derived.KernelRfl
import Derived.RowKit3
import Derived.Deep.LoopGhost
import Derived.Deep.QuietTactic
import Derived.BigQuiet
import Derived.WideLaws
import Derived.Deep.DeepCutAuto
import Derived.Deep.CutBlock
import Derived.Deep.RegionHeld3
import Derived.Laws.Rows
import Derived.Lib.AppendStr
import Derived.ArgAppend
import Derived.Laws.IdiomCopy
import Derived.OrdersHeld
import Derived.Laws.BitsLemmas
import Derived.RowKit
import Derived.Test.YtdepngppnbobdaaHStr
import Derived.Test.YtdepngppnbobdaaHRw
import Derived.Test.YtdepngppnbobdaaHBase
import Derived.Test.YtdepngppnbobdaaHBlob
import Derived.Test.YtdepngppnbobdaaHUv
import Derived.Test.YtdepngppnbobdaaWWords
import Derived.Test.YtdepngppnbobdaaWLast
import Derived.Test.YtdepngppnbobdaaWTab
import Derived.Test.YtdepngppnbobdaaWFour
import Derived.Test.YtdepngppnbobdaaWQPut
import Derived.Test.YtdepngppnbobdaaWApart
import Derived.Test.YtdepngppnbobdaaWArr
import Derived.Test.YtdepngppnbobdaaWZeros
import Derived.Test.YtdepngppnbobdaaWFoot
import Derived.Test.YtdepngppnbobdaaWKept
import Derived.Test.YtdepngppnbobdaaWShare
import Derived.Test.YtdepngppnbobdaaWN
import Derived.Test.YtdepngppnbobdaaWFootNe
import Derived.Test.YtdepngppnbobdaaWAt
import Derived.Test.YtdepngppnbobdaaWEqStruct
import Derived.Test.YtdepngppnbobdaaWRepsOne
import Derived.Test.YtdepngppnbobdaaWInv
import Derived.Test.YtdepngppnbobdaaWInvWords
import Derived.Test.YtdepngppnbobdaaWGuard
import Derived.Test.YtdepngppnbobdaaWNEv
import Derived.Test.YtdepngppnbobdaaWMore
import Derived.Test.YtdepngppnbobdaaWSized
namespace Go.Proofs.Ytdepngppnbobdaa.PRedoParses
open Go.RowKit Go.Proofs.Ytdepngppnbobdaa.HGiv Go.Proofs.Ytdepngppnbobdaa.PRed Go.Proofs.Ytdepngppnbobdaa.HBase Go.Proofs.Ytdepngppnbobdaa.HBlob Go.Proofs.Ytdepngppnbobdaa.HUv Go.Proofs.YtdepngppnbobdaaW.PrintWords Go.Proofs.YtdepngppnbobdaaW.PrintLast Go.Proofs.YtdepngppnbobdaaW.PrintMore
attribute [local go_sem] max2_int min2_int max_two min_two max_three min_three max_four min_four   -- for this text's walks alone
set_option linter.unusedVariables false
set_option linter.unusedSimpArgs false

/-! ### stratalaw11_RedoParses: function 5 -/
mutual
def stratalaw11_RedoParses.j0 : Nat → ByteArray → Bool → Option (Bool)
  | 0, _, _ => none
  | k + 1, x0, x34 => if x34 = true then (some false) else ((redo_FrameCommits.f k x0).bind fun bt202 => ((strataref11_FrameCommits.f k x0).bind fun bt206 => ((stratalaw11_num.f bt202.2).bind fun t210 => (if t210 = bt206.2 then (stratalaw11_RedoParses.j1 k bt202.1 bt206.1 ((bt202.1.length : Int) != (bt206.1.length : Int))) else (stratalaw11_RedoParses.j1 k bt202.1 bt206.1 true)))))
def stratalaw11_RedoParses.j1 : Nat → List (S25) → List (S25) → Bool → Option (Bool)
  | 0, _, _, _ => none
  | k + 1, x8, x10, x55 => if x55 = true then (some false) else (stratalaw11_RedoParses.l0 k x8 x10 0)
def stratalaw11_RedoParses.l0 : Nat → List (S25) → List (S25) → Int → Option (Bool)
  | 0, _, _, _ => none
  | k + 1, x8, x10, x12 => if x12 < (x8.length : Int) then (if 0 ≤ x12 then (if x12 < (x10.length : Int) then ((stratalaw11_sameCommit.f k ((rd_T25 x8 x12).f0) ((rd_T25 x8 x12).f1) ((rd_T25 x10 x12).f0) ((rd_T25 x10 x12).f1)).bind fun t213 => (if t213 = true then (stratalaw11_RedoParses.l0 k x8 x10 (wrap64 (x12 + 1))) else (some false))) else (none)) else (none)) else (some true)
end
def stratalaw11_RedoParses.f (k : Nat) (a0 : ByteArray) : Option (Bool) := (redo_DecodeCommit.f k a0).bind fun bt188 => ((strataref11_DecodeCommit.f k a0).bind fun bt194 => ((stratalaw11_sameCommit.f k bt188.1 bt188.2.1 bt194.1 bt194.2.1).bind fun t200 => (if t200 = true then ((stratalaw11_num.f bt188.2.2).bind fun t201 => (stratalaw11_RedoParses.j0 k a0 (t201 != bt194.2.2))) else (stratalaw11_RedoParses.j0 k a0 true))))
theorem stratalaw11_RedoParses.mono_l : ∀ k, (∀ y0 y1, LeO (stratalaw11_RedoParses.j0 k y0 y1) (stratalaw11_RedoParses.j0 (k + 1) y0 y1)) ∧ (∀ y0 y1 y2, LeO (stratalaw11_RedoParses.j1 k y0 y1 y2) (stratalaw11_RedoParses.j1 (k + 1) y0 y1 y2)) ∧ (∀ y0 y1 y2, LeO (stratalaw11_RedoParses.l0 k y0 y1 y2) (stratalaw11_RedoParses.l0 (k + 1) y0 y1 y2))
  | 0 => ⟨fun _ _ r h => by simp [stratalaw11_RedoParses.j0] at h, fun _ _ _ r h => by simp [stratalaw11_RedoParses.j1] at h, fun _ _ _ r h => by simp [stratalaw11_RedoParses.l0] at h⟩
  | k + 1 => by
    obtain ⟨ih0, ih1, ih2⟩ := stratalaw11_RedoParses.mono_l k
    refine ⟨?_, ?_, ?_⟩
    · intro y0 y1
      unfold stratalaw11_RedoParses.j0
      repeat' first
      | (with_reducible exact ih0 _ _)
      | (with_reducible exact ih1 _ _ _)
      | (with_reducible exact ih2 _ _ _)
      | (with_reducible exact redo_DecodeCommit.mono _ _)
      | (with_reducible exact redo_FrameCommits.mono _ _)
      | (with_reducible exact stratalaw11_sameCommit.mono _ _ _ _ _)
      | (with_reducible exact strataref11_DecodeCommit.mono _ _)
      | (with_reducible exact strataref11_FrameCommits.mono _ _)
      | (with_reducible exact LeO.refl _)
      | (with_reducible exact LeO.none _)
      | (with_reducible refine LeO.ite ?_ ?_)
      | (with_reducible refine LeO.bind ?_ (fun _ => ?_))
      | exact ih0 _ _
      | exact ih1 _ _ _
      | exact ih2 _ _ _
      | exact redo_DecodeCommit.mono _ _
      | exact redo_FrameCommits.mono _ _
      | exact stratalaw11_sameCommit.mono _ _ _ _ _
      | exact strataref11_DecodeCommit.mono _ _
      | exact strataref11_FrameCommits.mono _ _
      | exact LeO.none _
      | refine LeO.ite ?_ ?_
      | refine LeO.bind ?_ (fun _ => ?_)
    · intro y0 y1 y2
      unfold stratalaw11_RedoParses.j1
      repeat' first
      | (with_reducible exact ih0 _ _)
      | (with_reducible exact ih1 _ _ _)
      | (with_reducible exact ih2 _ _ _)
      | (with_reducible exact redo_DecodeCommit.mono _ _)
      | (with_reducible exact redo_FrameCommits.mono _ _)
      | (with_reducible exact stratalaw11_sameCommit.mono _ _ _ _ _)
      | (with_reducible exact strataref11_DecodeCommit.mono _ _)
      | (with_reducible exact strataref11_FrameCommits.mono _ _)
      | (with_reducible exact LeO.refl _)
      | (with_reducible exact LeO.none _)
      | (with_reducible refine LeO.ite ?_ ?_)
      | (with_reducible refine LeO.bind ?_ (fun _ => ?_))
      | exact ih0 _ _
      | exact ih1 _ _ _
      | exact ih2 _ _ _
      | exact redo_DecodeCommit.mono _ _
      | exact redo_FrameCommits.mono _ _
      | exact stratalaw11_sameCommit.mono _ _ _ _ _
      | exact strataref11_DecodeCommit.mono _ _
      | exact strataref11_FrameCommits.mono _ _
      | exact LeO.none _
      | refine LeO.ite ?_ ?_
      | refine LeO.bind ?_ (fun _ => ?_)
    · intro y0 y1 y2
      unfold stratalaw11_RedoParses.l0
      repeat' first
      | (with_reducible exact ih0 _ _)
      | (with_reducible exact ih1 _ _ _)
      | (with_reducible exact ih2 _ _ _)
      | (with_reducible exact redo_DecodeCommit.mono _ _)
      | (with_reducible exact redo_FrameCommits.mono _ _)
      | (with_reducible exact stratalaw11_sameCommit.mono _ _ _ _ _)
      | (with_reducible exact strataref11_DecodeCommit.mono _ _)
      | (with_reducible exact strataref11_FrameCommits.mono _ _)
      | (with_reducible exact LeO.refl _)
      | (with_reducible exact LeO.none _)
      | (with_reducible refine LeO.ite ?_ ?_)
      | (with_reducible refine LeO.bind ?_ (fun _ => ?_))
      | exact ih0 _ _
      | exact ih1 _ _ _
      | exact ih2 _ _ _
      | exact redo_DecodeCommit.mono _ _
      | exact redo_FrameCommits.mono _ _
      | exact stratalaw11_sameCommit.mono _ _ _ _ _
      | exact strataref11_DecodeCommit.mono _ _
      | exact strataref11_FrameCommits.mono _ _
      | exact LeO.none _
      | refine LeO.ite ?_ ?_
      | refine LeO.bind ?_ (fun _ => ?_)
theorem stratalaw11_RedoParses.mono : ∀ a0 k, LeO (stratalaw11_RedoParses.f k a0) (stratalaw11_RedoParses.f (k + 1) a0) := by
  intro a0 k
  obtain ⟨ih0, ih1, ih2⟩ := stratalaw11_RedoParses.mono_l k
  unfold stratalaw11_RedoParses.f
  repeat' first
      | (with_reducible exact ih0 _ _)
      | (with_reducible exact ih1 _ _ _)
      | (with_reducible exact ih2 _ _ _)
      | (with_reducible exact redo_DecodeCommit.mono _ _)
      | (with_reducible exact redo_FrameCommits.mono _ _)
      | (with_reducible exact stratalaw11_sameCommit.mono _ _ _ _ _)
      | (with_reducible exact strataref11_DecodeCommit.mono _ _)
      | (with_reducible exact strataref11_FrameCommits.mono _ _)
      | (with_reducible exact LeO.refl _)
      | (with_reducible exact LeO.none _)
      | (with_reducible refine LeO.ite ?_ ?_)
      | (with_reducible refine LeO.bind ?_ (fun _ => ?_))
      | exact ih0 _ _
      | exact ih1 _ _ _
      | exact ih2 _ _ _
      | exact redo_DecodeCommit.mono _ _
      | exact redo_FrameCommits.mono _ _
      | exact stratalaw11_sameCommit.mono _ _ _ _ _
      | exact strataref11_DecodeCommit.mono _ _
      | exact strataref11_FrameCommits.mono _ _
      | exact LeO.none _
      | refine LeO.ite ?_ ?_
      | refine LeO.bind ?_ (fun _ => ?_)
def stratalaw11_RedoParses.T13 : Bool × List (List Nat × List Nat) := (true, [([], []), ([], []), ([0, 1], [0, 1]), ([2], [2]), ([], []), ([], []), ([4, 5], [4, 5]), ([6], [6]), ([3, 7], [3, 7]), ([8, 8, 0, 1, 2, 3, 4, 5, 6, 7, 8], [8])])
def stratalaw11_RedoParses.B13 : List Nat := [0, 0, 3, 7, 0, 0, 48, 112, 255, 511]
theorem stratalaw11_RedoParses.tab13 : rtab .any (opsOf Try.f5 13) = stratalaw11_RedoParses.T13 := by kernel_rfl
theorem stratalaw11_RedoParses.bits13 : waitsOk stratalaw11_RedoParses.T13.2 stratalaw11_RedoParses.B13 = true := by kernel_rfl
set_option maxHeartbeats 8000000 in
set_option maxRecDepth 100000 in
theorem stratalaw11_RedoParses.calls (k : Nat) (a0 : ByteArray) (r : Bool) (w : World) (h : stratalaw11_RedoParses.f k a0 = some r) :
    Calls Try.prog 5 #[.string a0] w fun e w' => e = .returned (.bool r) ∧ Below w.heap.size w w' := by
  have hu25 := Try.underlying25
  have HB := Aside0.mk (Below.refl w.heap.size w)
  have H : ((redo_DecodeCommit.f k a0).bind fun bt188 => ((strataref11_DecodeCommit.f k a0).bind fun bt194 => ((stratalaw11_sameCommit.f k bt188.1 bt188.2.1 bt194.1 bt194.2.1).bind fun t200 => (if t200 = true then ((stratalaw11_num.f bt188.2.2).bind fun t201 => (stratalaw11_RedoParses.j0 k a0 (t201 != bt194.2.2))) else (stratalaw11_RedoParses.j0 k a0 true))))) = some r := h
  clear h
  replace H := Option.bind_eq_some_iff.mp H
  obtain ⟨⟨t188, t189, t192⟩, A20, H⟩ := H
  replace H : ((strataref11_DecodeCommit.f k a0).bind fun bt194 => ((stratalaw11_sameCommit.f k t188 t189 bt194.1 bt194.2.1).bind fun t200 => (if t200 = true then ((stratalaw11_num.f t192).bind fun t201 => (stratalaw11_RedoParses.j0 k a0 (t201 != bt194.2.2))) else (stratalaw11_RedoParses.j0 k a0 true)))) = some r := H
  have A2 := Aside0.mk A20
  clear A20
  replace H := Option.bind_eq_some_iff.mp H
  obtain ⟨⟨t194, t195, t198⟩, A30, H⟩ := H
  replace H : ((stratalaw11_sameCommit.f k t188 t189 t194 t195).bind fun t200 => (if t200 = true then ((stratalaw11_num.f t192).bind fun t201 => (stratalaw11_RedoParses.j0 k a0 (t201 != t198))) else (stratalaw11_RedoParses.j0 k a0 true))) = some r := H
  have A3 := Aside0.mk A30
  clear A30
  replace H := Option.bind_eq_some_iff.mp H
  obtain ⟨t200, A40, H⟩ := H
  replace H : (if t200 = true then ((stratalaw11_num.f t192).bind fun t201 => (stratalaw11_RedoParses.j0 k a0 (t201 != t198))) else (stratalaw11_RedoParses.j0 k a0 true)) = some r := H
  have A4 := Aside0.mk A40
  clear A40
  have HC5 := Aside0.mk H
  clear H
  go_enter Try.func5, Try.ntmps5
  go_upto_region 4 with (first | ((with_reducible refine gate_callee (f := 13) rfl ?_); refine goesL_ (some 16) rfl rfl Try.func13 (by kernel_rfl) rfl #[.string a0] rfl (by (try simp only [List.map_toArray, List.map_cons, List.map_nil]); first | done | rfl | (simp only [List.length_drop, List.length_take]; rfl)) ?_; (with_reducible refine (redo_DecodeCommit.calls k a0 t188 t189 t192 _ A2.out).mono ?_); rintro e w6 ⟨v190, rfl, ho0, hb⟩; refine ⟨_, rfl, ?_⟩; have n0_ := Aside0.mk (Kd.R_lower ho0 (below_size (by repeat (first | (with_reducible first | exact HB.out | apply below_alloc | apply pw_below_drewN | apply below_drew1) | exact HB.out)))); have n1_ := Aside0.mk (below_step (by repeat (first | (with_reducible first | exact HB.out | apply below_alloc | apply pw_below_drewN | apply below_drew1) | exact HB.out)) hb); clear HB; have HO191 := n0_; have HB := n1_; clear n0_ n1_; (try clear hb); (try clear hb2); (try clear hk); (try clear hi); (try clear ho0)) | ((with_reducible refine gate_dst (N := 3) rfl ?_); (try (refine gate_guard (by rfl) ?_; dsimp only)); refine box_event ?hg (N := 3) ?hd (cs := #[.int .u64 0, .slice none 0 0]) (t := 25) ?hr ?_; (case hd => rfl); (case hg => rfl); (case hr => first | (go_simp; done) | (go_simp; rfl)); intro gb193 hg w7 hbox hb; have n0_ := Aside0.mk (Kd.R_below (by (with_reducible repeat (first | apply Kd.R_alloc | apply Kd.R_drewN | apply Kd.R_drew)); exact HO191.out) hb); have n1_ := Aside0.mk (below_step (by repeat (first | (with_reducible first | exact HB.out | apply below_alloc | apply pw_below_drewN | apply below_drew1) | exact HB.out)) hb); have n2_ := Aside0.mk (hbox); have n3_ := Aside0.mk ((by rw [hg]; exact (below_size (by repeat (first | (with_reducible first | exact HB.out | apply below_alloc | apply pw_below_drewN | apply below_drew1) | exact HB.out))) : w.heap.size ≤ gb193)); have n4_ := Aside0.mk ((by rw [hg]; exact (below_size (by repeat (first | (with_reducible first | exact HB.out | apply below_alloc | apply pw_below_drewN | apply below_drew1) | exact HB.out))) : w.heap.size ≤ gb193)); clear HO191; clear HB; have HO191 := n0_; have HB := n1_; have BK193 := n2_; have GW193 := n3_; have GE193 := n4_; clear n0_ n1_ n2_ n3_ n4_; clear hb hbox hg; have hcz8_0 : w7.cell? ⟨gb193, 0, none⟩ = some (.int .u64 0) := (blk_cell BK193.out 0).trans rfl; have hcz8_1 : w7.cell? ⟨gb193, 1, none⟩ = some (.slice none 0 0) := (blk_cell BK193.out 1).trans rfl; have hfz8_0 := blk_frozen BK193.out 0; have hfz8_1 := blk_frozen BK193.out 1; obtain ⟨Ao9, co9, eo9⟩ := Kd.R_slice HO191.out; subst eo9) | ((with_reducible refine gate_callee (f := 14) rfl ?_); refine goesL_ (some 21) rfl rfl Try.func14 (by kernel_rfl) rfl #[.string a0] rfl (by (try simp only [List.map_toArray, List.map_cons, List.map_nil]); first | done | rfl | (simp only [List.length_drop, List.length_take]; rfl)) ?_; (with_reducible refine (strataref11_DecodeCommit.calls k a0 t194 t195 t198 _ A3.out).mono ?_); rintro e w10 ⟨v196, rfl, ho0, hb⟩; refine ⟨_, rfl, ?_⟩; have n0_ := Aside0.mk (Kd.R_elder' (by (with_reducible repeat (first | apply Kd.R_alloc | apply Kd.R_drewN | apply Kd.R_drew)); exact (Kd.R_mono (Kd.R_far (p := ⟨gb193, 1, none⟩) (Kd.R_far (p := ⟨gb193, 0, none⟩) (Kd.R_types HO191.out BK193.out (by decide)) (fun _ hk => hk.2) (.int .u64 t188)) (fun _ hk => hk.2) (.slice Ao9 t189.length co9)) (fun _ h_ => h_.1))) (Kd.R_base ho0) hb); have n1_ := Aside0.mk (Kd.R_lower (Kd.R_new' ho0 (Kd.R_lt (by (with_reducible repeat (first | apply Kd.R_alloc | apply Kd.R_drewN | apply Kd.R_drew)); exact (Kd.R_mono (Kd.R_far (p := ⟨gb193, 1, none⟩) (Kd.R_far (p := ⟨gb193, 0, none⟩) (Kd.R_types HO191.out BK193.out (by decide)) (fun _ hk => hk.2) (.int .u64 t188)) (fun _ hk => hk.2) (.slice Ao9 t189.length co9)) (fun _ h_ => h_.1))))) (below_size (by repeat (first | (with_reducible first | exact HB.out | apply below_alloc | apply pw_below_drewN | apply below_drew1 | refine below_set ?_ GE193.out) | exact HB.out)))); have n2_ := Aside0.mk (blk_below (g := gb193) (o := .cells #[.int .u64 t188, .slice Ao9 t189.length co9] 25 (0, 0)) (by (with_reducible repeat (first | refine blk_drewN ?_ _ | refine blk_drew ?_ | refine blk_alloc ?_ _)); refine blk_put (cs := #[.int .u64 t188, .slice none 0 0]) ?_ 1 _ rfl; (with_reducible repeat (first | refine blk_drewN ?_ _ | refine blk_drew ?_ | refine blk_alloc ?_ _)); refine blk_put (cs := #[.int .u64 0, .slice none 0 0]) ?_ 0 _ rfl; (with_reducible repeat (first | refine blk_drewN ?_ _ | refine blk_drew ?_ | refine blk_alloc ?_ _)); exact BK193.out) hb); have n3_ := Aside0.mk (below_step (by repeat (first | (with_reducible first | exact HB.out | apply below_alloc | apply pw_below_drewN | apply below_drew1 | refine below_set ?_ GE193.out) | exact HB.out)) hb); clear HO191; clear BK193; clear HB; have HO191 := n0_; have HO197 := n1_; have BK193 := n2_; have HB := n3_; clear n0_ n1_ n2_ n3_; (try clear hb); (try clear hb2); (try clear hk); (try clear hi); (try clear ho0)) | ((with_reducible refine gate_dst (N := 5) rfl ?_); (try (refine gate_guard (by rfl) ?_; dsimp only)); refine box_event ?hg (N := 5) ?hd (cs := #[.int .u64 0, .slice none 0 0]) (t := 25) ?hr ?_; (case hd => rfl); (case hg => rfl); (case hr => first | (go_simp; done) | (go_simp; rfl)); intro gb199 hg w11 hbox hb; have n0_ := Aside0.mk (Kd.R_below (by (with_reducible repeat (first | apply Kd.R_alloc | apply Kd.R_drewN | apply Kd.R_drew)); exact HO191.out) hb); have n1_ := Aside0.mk (Kd.R_below (by (with_reducible repeat (first | apply Kd.R_alloc | apply Kd.R_drewN | apply Kd.R_drew)); exact HO197.out) hb); have n2_ := Aside0.mk (blk_below (g := gb193) (o := .cells #[.int .u64 t188, .slice Ao9 t189.length co9] 25 (0, 0)) (by (with_reducible repeat (first | refine blk_drewN ?_ _ | refine blk_drew ?_ | refine blk_alloc ?_ _)); exact BK193.out) hb); have n3_ := Aside0.mk (below_step (by repeat (first | (with_reducible first | exact HB.out | apply below_alloc | apply pw_below_drewN | apply below_drew1 | refine below_set ?_ GE193.out) | exact HB.out)) hb); have n4_ := Aside0.mk (hbox); have n5_ := Aside0.mk ((by rw [hg]; exact (below_size (by repeat (first | (with_reducible first | exact HB.out | apply below_alloc | apply pw_below_drewN | apply below_drew1 | refine below_set ?_ GE193.out) | exact HB.out))) : w.heap.size ≤ gb199)); have n6_ := Aside0.mk ((by rw [hg]; exact (below_size (by repeat (first | (with_reducible first | exact HB.out | apply below_alloc | apply pw_below_drewN | apply below_drew1 | refine below_set ?_ GE193.out) | exact HB.out))) : w.heap.size ≤ gb199)); have n7_ := Aside0.mk ((by rw [hg]; exact Nat.ne_of_lt (blk_lt (g := gb193) (o := .cells #[.int .u64 t188, .slice Ao9 t189.length co9] 25 (0, 0)) (by (with_reducible repeat (first | refine blk_drewN ?_ _ | refine blk_drew ?_ | refine blk_alloc ?_ _)); exact BK193.out)) : gb193 ≠ gb199)); have n8_ := Aside0.mk ((by rw [hg]; exact Nat.ne_of_gt (blk_lt (g := gb193) (o := .cells #[.int .u64 t188, .slice Ao9 t189.length co9] 25 (0, 0)) (by (with_reducible repeat (first | refine blk_drewN ?_ _ | refine blk_drew ?_ | refine blk_alloc ?_ _)); exact BK193.out)) : gb199 ≠ gb193)); clear HO191; clear HO197; clear BK193; clear HB; have HO191 := n0_; have HO197 := n1_; have BK193 := n2_; have HB := n3_; have BK199 := n4_; have GW199 := n5_; have GE199 := n6_; have NB193_199 := n7_; have NB199_193 := n8_; clear n0_ n1_ n2_ n3_ n4_ n5_ n6_ n7_ n8_; clear hb hbox hg; have hnb12 := NB199_193.out; have hnc12 := NB193_199.out; have hcz13_0 : w11.cell? ⟨gb199, 0, none⟩ = some (.int .u64 0) := (blk_cell BK199.out 0).trans rfl; have hcz13_1 : w11.cell? ⟨gb199, 1, none⟩ = some (.slice none 0 0) := (blk_cell BK199.out 1).trans rfl; have hfz13_0 := blk_frozen BK199.out 0; have hfz13_1 := blk_frozen BK199.out 1; obtain ⟨Ao14, co14, eo14⟩ := Kd.R_slice HO197.out; subst eo14; have hcz15_0 : w11.cell? ⟨gb193, 0, none⟩ = some (.int .u64 t188) := (blk_cell BK193.out 0).trans rfl; have hcz15_1 : w11.cell? ⟨gb193, 1, none⟩ = some (.slice Ao9 t189.length co9) := (blk_cell BK193.out 1).trans rfl; have hfz15_0 := blk_frozen BK193.out 0; have hfz15_1 := blk_frozen BK193.out 1) | ((with_reducible refine gate_callee (f := 11) rfl ?_); refine goesL_ (some 26) rfl rfl Try.func11 (by kernel_rfl) rfl #[.agg #[.int .u64 t188, .slice Ao9 t189.length co9], .agg #[.int .u64 t194, .slice Ao14 t195.length co14]] rfl (by (try simp only [List.map_toArray, List.map_cons, List.map_nil]); first | done | rfl | (simp only [List.length_drop, List.length_take]; rfl)) ?_; (with_reducible refine (stratalaw11_sameCommit.calls k t188 _ _ t189 t194 _ _ t195 t200 _ ?side1 ?side2 ?side3 ?side4 A4.out).mono ?_); (case side1 => refine (Kd.R_reads' (e := 36) (base := w.heap.size) (ok := fun k_ => (True ∧ some k_ ≠ (.slice Ao14 t195.length co14 : Value).ownBlock)) (n := t189.length) (c := co9) ?_).2.2; exact (by (with_reducible repeat (first | apply Kd.R_alloc | apply Kd.R_drewN | apply Kd.R_drew)); exact (Kd.R_mono (Kd.R_far (p := ⟨gb199, 1, none⟩) (Kd.R_far (p := ⟨gb199, 0, none⟩) (Kd.R_types HO191.out BK199.out (by decide)) (fun _ hk => hk.2) (.int .u64 t194)) (fun _ hk => hk.2) (.slice Ao14 t195.length co14)) (fun _ h_ => h_.1)))); (case side2 => exact (Kd.R_reads' HO191.out).2.1); (case side3 => refine (Kd.R_reads' (e := 36) (base := w.heap.size) (ok := fun k_ => (True ∧ some k_ ≠ (.slice Ao9 t189.length co9 : Value).ownBlock)) (n := t195.length) (c := co14) ?_).2.2; exact (by (with_reducible repeat (first | apply Kd.R_alloc | apply Kd.R_drewN | apply Kd.R_drew)); exact (Kd.R_mono (Kd.R_far (p := ⟨gb199, 1, none⟩) (Kd.R_far (p := ⟨gb199, 0, none⟩) (Kd.R_types HO197.out BK199.out (by decide)) (fun _ hk => hk.2) (.int .u64 t194)) (fun _ hk => hk.2) (.slice Ao14 t195.length co14)) (fun _ h_ => h_.1)))); (case side4 => exact (Kd.R_reads' HO197.out).2.1); rintro e w16 ⟨rfl, hb⟩; refine ⟨_, rfl, ?_⟩; have n0_ := Aside0.mk (Kd.R_below (by (with_reducible repeat (first | apply Kd.R_alloc | apply Kd.R_drewN | apply Kd.R_drew)); exact (Kd.R_mono (Kd.R_far (p := ⟨gb199, 1, none⟩) (Kd.R_far (p := ⟨gb199, 0, none⟩) (Kd.R_types HO191.out BK199.out (by decide)) (fun _ hk => hk.2) (.int .u64 t194)) (fun _ hk => hk.2) (.slice Ao14 t195.length co14)) (fun _ h_ => h_.1))) hb); have n1_ := Aside0.mk (Kd.R_below (by (with_reducible repeat (first | apply Kd.R_alloc | apply Kd.R_drewN | apply Kd.R_drew)); exact (Kd.R_mono (Kd.R_far (p := ⟨gb199, 1, none⟩) (Kd.R_far (p := ⟨gb199, 0, none⟩) (Kd.R_types HO197.out BK199.out (by decide)) (fun _ hk => hk.2) (.int .u64 t194)) (fun _ hk => hk.2) (.slice Ao14 t195.length co14)) (fun _ h_ => h_.1))) hb); have n2_ := Aside0.mk (blk_below (g := gb193) (o := .cells #[.int .u64 t188, .slice Ao9 t189.length co9] 25 (0, 0)) (by (with_reducible repeat (first | refine blk_drewN ?_ _ | refine blk_drew ?_ | refine blk_alloc ?_ _)); refine blk_far ?_ NB193_199.out _; (with_reducible repeat (first | refine blk_drewN ?_ _ | refine blk_drew ?_ | refine blk_alloc ?_ _)); refine blk_far ?_ NB193_199.out _; (with_reducible repeat (first | refine blk_drewN ?_ _ | refine blk_drew ?_ | refine blk_alloc ?_ _)); exact BK193.out) hb); have n3_ := Aside0.mk (blk_below (g := gb199) (o := .cells #[.int .u64 t194, .slice Ao14 t195.length co14] 25 (0, 0)) (by (with_reducible repeat (first | refine blk_drewN ?_ _ | refine blk_drew ?_ | refine blk_alloc ?_ _)); refine blk_put (cs := #[.int .u64 t194, .slice none 0 0]) ?_ 1 _ rfl; (with_reducible repeat (first | refine blk_drewN ?_ _ | refine blk_drew ?_ | refine blk_alloc ?_ _)); refine blk_put (cs := #[.int .u64 0, .slice none 0 0]) ?_ 0 _ rfl; (with_reducible repeat (first | refine blk_drewN ?_ _ | refine blk_drew ?_ | refine blk_alloc ?_ _)); exact BK199.out) hb); have n4_ := Aside0.mk (below_step (by repeat (first | (with_reducible first | exact HB.out | apply below_alloc | apply pw_below_drewN | apply below_drew1 | refine below_set ?_ GE193.out | refine below_set ?_ GE199.out) | exact HB.out)) hb); clear HO191; clear HO197; clear BK193; clear BK199; clear HB; have HO191 := n0_; have HO197 := n1_; have BK193 := n2_; have BK199 := n3_; have HB := n4_; clear n0_ n1_ n2_ n3_ n4_; (try clear hb); (try clear hb2); (try clear hk); (try clear hi)))
  (try simp only [Act.put, List.setIfInBounds_toArray, List.set_cons_zero, List.set_cons_succ])
  go_cut [34] (fun v34 wc => ∃ (kq : Nat) (x34_4 : Bool), v34 = .bool x34_4 ∧ Aside0 (stratalaw11_RedoParses.j0 kq a0 x34_4 = some r) ∧ Aside0 (kq ≤ k) ∧ Aside0 (Kd.R k36 36 wc w.heap.size (fun k_ => some k_ ≠ ((.slice Ao14 t195.length co14) : Value).ownBlock) (.slice Ao9 t189.length co9) t189) ∧ Aside0 (Kd.R k36 36 wc w.heap.size (fun k_ => some k_ ≠ ((.slice Ao9 t189.length co9) : Value).ownBlock) (.slice Ao14 t195.length co14) t195) ∧ Aside0 (wc.heap[gb193]? = some (.cells #[.int .u64 t188, (.slice Ao9 t189.length co9)] 25 (0, 0))) ∧ Aside0 (wc.heap[gb199]? = some (.cells #[.int .u64 t194, (.slice Ao14 t195.length co14)] 25 (0, 0))) ∧ Aside0 (Below w.heap.size w wc))
  case first =>
    have H := HC5.out
    clear HC5
    by_cases c17 : t200 = true
    · subst c17
      have H1 : ((stratalaw11_num.f t192).bind fun t201 => (stratalaw11_RedoParses.j0 k a0 (t201 != t198))) = some r := by rw [if_pos rfl] at H; exact H
      clear H
      have H := H1
      clear H1
      replace H := Option.bind_eq_some_iff.mp H
      obtain ⟨t201, A180, H⟩ := H
      replace H : (stratalaw11_RedoParses.j0 k a0 (t201 != t198)) = some r := H
      have A18 := Aside0.mk A180
      clear A180
      have H' := Aside0.mk H
      clear H
      go_wp2_with (first | (go_at_call 12; (with_reducible refine (stratalaw11_num.calls t192 t201 _ A18.out).mono ?_); rintro e w' ⟨rfl, ⟨nd, rfl⟩⟩))
      go_meet
      case rel => exact ⟨_, ((t201 != t198)), (by first | rfl | (simp; done) | (simp [*]; done)), H', ⟨by first | omega | exact Nat.le_refl _⟩, ⟨by (with_reducible repeat (first | apply Kd.R_alloc | apply Kd.R_drewN | apply Kd.R_drew)); exact Kd.R_mono HO191.out (fun _ hk => hk.2)⟩, ⟨by (with_reducible repeat (first | apply Kd.R_alloc | apply Kd.R_drewN | apply Kd.R_drew)); exact Kd.R_mono HO197.out (fun _ hk => hk.2)⟩, ⟨by (with_reducible repeat (first | refine blk_drewN ?_ _ | refine blk_drew ?_ | refine blk_alloc ?_ _)); exact BK193.out⟩, ⟨by (with_reducible repeat (first | refine blk_drewN ?_ _ | refine blk_drew ?_ | refine blk_alloc ?_ _)); exact BK199.out⟩, ⟨by repeat (first | (with_reducible first | exact HB.out | apply below_alloc | apply pw_below_drewN | apply below_drew1 | refine below_set ?_ GE193.out | refine below_set ?_ GE199.out) | exact HB.out)⟩⟩
    · replace c17 := Bool.eq_false_iff.mpr c17
      subst c17
      have H1 : (stratalaw11_RedoParses.j0 k a0 true) = some r := by rw [if_neg (show ¬ (false = true) by decide)] at H; exact H
      clear H
      have H := H1
      clear H1
      have H' := Aside0.mk H
      clear H
      go_wp2
      go_meet
      case rel => exact ⟨_, (true), (by first | rfl | (simp; done) | (simp [*]; done)), H', ⟨by first | omega | exact Nat.le_refl _⟩, ⟨by (with_reducible repeat (first | apply Kd.R_alloc | apply Kd.R_drewN | apply Kd.R_drew)); exact Kd.R_mono HO191.out (fun _ hk => hk.2)⟩, ⟨by (with_reducible repeat (first | apply Kd.R_alloc | apply Kd.R_drewN | apply Kd.R_drew)); exact Kd.R_mono HO197.out (fun _ hk => hk.2)⟩, ⟨by (with_reducible repeat (first | refine blk_drewN ?_ _ | refine blk_drew ?_ | refine blk_alloc ?_ _)); exact BK193.out⟩, ⟨by (with_reducible repeat (first | refine blk_drewN ?_ _ | refine blk_drew ?_ | refine blk_alloc ?_ _)); exact BK199.out⟩, ⟨by repeat (first | (with_reducible first | exact HB.out | apply below_alloc | apply pw_below_drewN | apply below_drew1 | refine below_set ?_ GE193.out | refine below_set ?_ GE199.out) | exact HB.out)⟩⟩
  case rest =>
    clear HC5
    try clear c1
    try clear p2
    try clear c5
    try clear c11
    try clear c12
    try clear c13
    try clear c14
    try clear c17
    try clear hcz13_0
    try clear hcz13_1
    try clear hcz15_0
    try clear hcz15_1
    try clear hcz8_0
    try clear hcz8_1
    try clear hfz13_0
    try clear hfz13_1
    try clear hfz15_0
    try clear hfz15_1
    try clear hfz8_0
    try clear hfz8_1
    obtain ⟨kq, x34_4, rfl, HA, HJ4, HO_194001, HO_200001, BK193, BK199, HB⟩ := hcut
    cases kq with
    | zero => exact absurd HA.out (by simp [stratalaw11_RedoParses.j0])
    | succ kj4 =>
      have H := HA.out
      clear HA
      simp only [stratalaw11_RedoParses.j0] at H
      by_cases c19 : x34_4 = true
      · subst c19
        have H1 : (some false) = some r := by rw [if_pos rfl] at H; exact H
        clear H
        have H := H1
        clear H1
        obtain rfl := Option.some.inj H
        go_wp2
        go_ret
        exact ⟨by first | rfl | (simp [errW_none, errW_some] <;> rfl) | (simp [*, errW_none, errW_some] <;> rfl), by repeat (first | (with_reducible first | exact HB.out | apply below_alloc | apply pw_below_drewN | apply below_drew1 | refine below_set ?_ GE193.out | refine below_set ?_ GE199.out) | exact HB.out)⟩
      · replace c19 := Bool.eq_false_iff.mpr c19
        subst c19
        have H1 : ((redo_FrameCommits.f kj4 a0).bind fun bt202 => ((strataref11_FrameCommits.f kj4 a0).bind fun bt206 => ((stratalaw11_num.f bt202.2).bind fun t210 => (if t210 = bt206.2 then (stratalaw11_RedoParses.j1 kj4 bt202.1 bt206.1 ((bt202.1.length : Int) != (bt206.1.length : Int))) else (stratalaw11_RedoParses.j1 kj4 bt202.1 bt206.1 true))))) = some r := by rw [if_neg (show ¬ (false = true) by decide)] at H; exact H
        clear H
        have H := H1
        clear H1
        replace H := Option.bind_eq_some_iff.mp H
        obtain ⟨⟨t202, t203⟩, A200, H⟩ := H
        replace H : ((strataref11_FrameCommits.f kj4 a0).bind fun bt206 => ((stratalaw11_num.f t203).bind fun t210 => (if t210 = bt206.2 then (stratalaw11_RedoParses.j1 kj4 t202 bt206.1 ((t202.length : Int) != (bt206.1.length : Int))) else (stratalaw11_RedoParses.j1 kj4 t202 bt206.1 true)))) = some r := H
        have A20 := Aside0.mk A200
        clear A200
        replace H := Option.bind_eq_some_iff.mp H
        obtain ⟨⟨t206, t207⟩, A210, H⟩ := H
        replace H : ((stratalaw11_num.f t203).bind fun t210 => (if t210 = t207 then (stratalaw11_RedoParses.j1 kj4 t202 t206 ((t202.length : Int) != (t206.length : Int))) else (stratalaw11_RedoParses.j1 kj4 t202 t206 true))) = some r := H
        have A21 := Aside0.mk A210
        clear A210
        have HC22 := Aside0.mk H
        clear H
        go_upto_region 8 with (first | ((with_reducible refine gate_callee (f := 15) rfl ?_); refine goesL_ (some 37) rfl rfl Try.func15 (by kernel_rfl) rfl #[.string a0] rfl (by (try simp only [List.map_toArray, List.map_cons, List.map_nil]); first | done | rfl | (simp only [List.length_drop, List.length_take]; rfl)) ?_; (with_reducible refine (redo_FrameCommits.calls kj4 a0 t202 t203 _ A20.out).mono ?_); rintro e w23 ⟨v204, rfl, ho0, hb⟩; refine ⟨_, rfl, ?_⟩; have n0_ := Aside0.mk (Kd.R_below (by (with_reducible repeat (first | apply Kd.R_alloc | apply Kd.R_drewN | apply Kd.R_drew)); exact HO_194001.out) hb); have n1_ := Aside0.mk (Kd.R_below (by (with_reducible repeat (first | apply Kd.R_alloc | apply Kd.R_drewN | apply Kd.R_drew)); exact HO_200001.out) hb); have n2_ := Aside0.mk (Kd.S_lower (Kd.S_newB (Kd.S_newB (Kd.S_new' (Kd.S_new' ho0 (Kd.R_lt (by (with_reducible repeat (first | apply Kd.R_alloc | apply Kd.R_drewN | apply Kd.R_drew)); exact HO_194001.out))) (Kd.R_lt (by (with_reducible repeat (first | apply Kd.R_alloc | apply Kd.R_drewN | apply Kd.R_drew)); exact HO_200001.out))) (g := gb193) (o := .cells #[.int .u64 t188, .slice Ao9 t189.length co9] 25 (0, 0)) (by (with_reducible repeat (first | refine blk_drewN ?_ _ | refine blk_drew ?_ | refine blk_alloc ?_ _)); exact BK193.out)) (g := gb199) (o := .cells #[.int .u64 t194, .slice Ao14 t195.length co14] 25 (0, 0)) (by (with_reducible repeat (first | refine blk_drewN ?_ _ | refine blk_drew ?_ | refine blk_alloc ?_ _)); exact BK199.out)) (below_size (by repeat (first | (with_reducible first | exact HB.out | apply below_alloc | apply pw_below_drewN | apply below_drew1 | refine below_set ?_ GE193.out | refine below_set ?_ GE199.out) | exact HB.out)))); have n3_ := Aside0.mk (blk_below (g := gb193) (o := .cells #[.int .u64 t188, .slice Ao9 t189.length co9] 25 (0, 0)) (by (with_reducible repeat (first | refine blk_drewN ?_ _ | refine blk_drew ?_ | refine blk_alloc ?_ _)); exact BK193.out) hb); have n4_ := Aside0.mk (blk_below (g := gb199) (o := .cells #[.int .u64 t194, .slice Ao14 t195.length co14] 25 (0, 0)) (by (with_reducible repeat (first | refine blk_drewN ?_ _ | refine blk_drew ?_ | refine blk_alloc ?_ _)); exact BK199.out) hb); have n5_ := Aside0.mk (below_step (by repeat (first | (with_reducible first | exact HB.out | apply below_alloc | apply pw_below_drewN | apply below_drew1 | refine below_set ?_ GE193.out | refine below_set ?_ GE199.out) | exact HB.out)) hb); clear HO_194001; clear HO_200001; clear BK193; clear BK199; clear HB; have HO_194001 := n0_; have HO_200001 := n1_; have HO205 := n2_; have BK193 := n3_; have BK199 := n4_; have HB := n5_; clear n0_ n1_ n2_ n3_ n4_ n5_; (try clear hb); (try clear hb2); (try clear hk); (try clear hi); (try clear ho0)) | ((with_reducible refine gate_callee (f := 16) rfl ?_); refine goesL_ (some 42) rfl rfl Try.func16 (by kernel_rfl) rfl #[.string a0] rfl (by (try simp only [List.map_toArray, List.map_cons, List.map_nil]); first | done | rfl | (simp only [List.length_drop, List.length_take]; rfl)) ?_; (with_reducible refine (strataref11_FrameCommits.calls kj4 a0 t206 t207 _ A21.out).mono ?_); rintro e w24 ⟨v208, rfl, ho0, hb⟩; refine ⟨_, rfl, ?_⟩; have n0_ := Aside0.mk (Kd.R_below (by (with_reducible repeat (first | apply Kd.R_alloc | apply Kd.R_drewN | apply Kd.R_drew)); exact HO_194001.out) hb); have n1_ := Aside0.mk (Kd.R_below (by (with_reducible repeat (first | apply Kd.R_alloc | apply Kd.R_drewN | apply Kd.R_drew)); exact HO_200001.out) hb); have n2_ := Aside0.mk (Kd.S_elder' (by (with_reducible repeat (first | apply Kd.S_alloc | apply Kd.S_drewN | apply Kd.S_drew)); exact HO205.out) (Kd.S_base ho0) hb); have n3_ := Aside0.mk (Kd.S_lower (Kd.S_newB (Kd.S_newB (Kd.S_new' (Kd.S_new' (Kd.S_new' ho0 (Kd.R_lt (by (with_reducible repeat (first | apply Kd.R_alloc | apply Kd.R_drewN | apply Kd.R_drew)); exact HO_194001.out))) (Kd.R_lt (by (with_reducible repeat (first | apply Kd.R_alloc | apply Kd.R_drewN | apply Kd.R_drew)); exact HO_200001.out))) (Kd.S_lt (by (with_reducible repeat (first | apply Kd.S_alloc | apply Kd.S_drewN | apply Kd.S_drew)); exact HO205.out))) (g := gb193) (o := .cells #[.int .u64 t188, .slice Ao9 t189.length co9] 25 (0, 0)) (by (with_reducible repeat (first | refine blk_drewN ?_ _ | refine blk_drew ?_ | refine blk_alloc ?_ _)); exact BK193.out)) (g := gb199) (o := .cells #[.int .u64 t194, .slice Ao14 t195.length co14] 25 (0, 0)) (by (with_reducible repeat (first | refine blk_drewN ?_ _ | refine blk_drew ?_ | refine blk_alloc ?_ _)); exact BK199.out)) (below_size (by repeat (first | (with_reducible first | exact HB.out | apply below_alloc | apply pw_below_drewN | apply below_drew1 | refine below_set ?_ GE193.out | refine below_set ?_ GE199.out) | exact HB.out)))); have n4_ := Aside0.mk (blk_below (g := gb193) (o := .cells #[.int .u64 t188, .slice Ao9 t189.length co9] 25 (0, 0)) (by (with_reducible repeat (first | refine blk_drewN ?_ _ | refine blk_drew ?_ | refine blk_alloc ?_ _)); exact BK193.out) hb); have n5_ := Aside0.mk (blk_below (g := gb199) (o := .cells #[.int .u64 t194, .slice Ao14 t195.length co14] 25 (0, 0)) (by (with_reducible repeat (first | refine blk_drewN ?_ _ | refine blk_drew ?_ | refine blk_alloc ?_ _)); exact BK199.out) hb); have n6_ := Aside0.mk (below_step (by repeat (first | (with_reducible first | exact HB.out | apply below_alloc | apply pw_below_drewN | apply below_drew1 | refine below_set ?_ GE193.out | refine below_set ?_ GE199.out) | exact HB.out)) hb); clear HO_194001; clear HO_200001; clear HO205; clear BK193; clear BK199; clear HB; have HO_194001 := n0_; have HO_200001 := n1_; have HO205 := n2_; have HO209 := n3_; have BK193 := n4_; have BK199 := n5_; have HB := n6_; clear n0_ n1_ n2_ n3_ n4_ n5_ n6_; (try clear hb); (try clear hb2); (try clear hk); (try clear hi); (try clear ho0)))
        (try simp only [Act.put, List.setIfInBounds_toArray, List.set_cons_zero, List.set_cons_succ])
        go_cut [55] (fun v55 wc => ∃ (kq : Nat) (x55_21 : Bool), v55 = .bool x55_21 ∧ Aside0 (stratalaw11_RedoParses.j1 kq t202 t206 x55_21 = some r) ∧ Aside0 (kq ≤ kj4) ∧ Aside0 (Kd.S k25 25 wc w.heap.size (fun k_ => some k_ ≠ (v208 : Value).ownBlock ∧ some k_ ≠ ((.slice Ao9 t189.length co9) : Value).ownBlock ∧ some k_ ≠ ((.slice Ao14 t195.length co14) : Value).ownBlock ∧ k_ ≠ gb193 ∧ k_ ≠ gb199) v204 t202) ∧ Aside0 (Kd.S k25 25 wc w.heap.size (fun k_ => some k_ ≠ (v204 : Value).ownBlock ∧ some k_ ≠ ((.slice Ao9 t189.length co9) : Value).ownBlock ∧ some k_ ≠ ((.slice Ao14 t195.length co14) : Value).ownBlock ∧ k_ ≠ gb193 ∧ k_ ≠ gb199) v208 t206) ∧ Aside0 (Kd.R k36 36 wc w.heap.size (fun k_ => some k_ ≠ ((.slice Ao14 t195.length co14) : Value).ownBlock) (.slice Ao9 t189.length co9) t189) ∧ Aside0 (Kd.R k36 36 wc w.heap.size (fun k_ => some k_ ≠ ((.slice Ao9 t189.length co9) : Value).ownBlock) (.slice Ao14 t195.length co14) t195) ∧ Aside0 (wc.heap[gb193]? = some (.cells #[.int .u64 t188, (.slice Ao9 t189.length co9)] 25 (0, 0))) ∧ Aside0 (wc.heap[gb199]? = some (.cells #[.int .u64 t194, (.slice Ao14 t195.length co14)] 25 (0, 0))) ∧ Aside0 (Below w.heap.size w wc))
        case first =>
          have H := HC22.out
          clear HC22
          replace H := Option.bind_eq_some_iff.mp H
          obtain ⟨t210, A250, H⟩ := H
          replace H : (if t210 = t207 then (stratalaw11_RedoParses.j1 kj4 t202 t206 ((t202.length : Int) != (t206.length : Int))) else (stratalaw11_RedoParses.j1 kj4 t202 t206 true)) = some r := H
          have A25 := Aside0.mk A250
          clear A250
          by_cases c26 : t210 = t207
          · rw [if_pos c26] at H
            have c26b0 : (t210 == t207) = true := beq_iff_eq.mpr c26
            have c26b1 : (t210 != t207) = false := bne_eq_false_iff_eq.mpr c26
            clear c26
            (first | rw [c26b0] | (simp only [i64_w, i32_w]; rw [c26b0]) | skip)
            have H' := Aside0.mk H
            clear H
            go_wp2_with (first | ((with_reducible refine gate_callee (f := 12) rfl ?_); refine goesL_ (some 46) rfl rfl Try.func12 (by kernel_rfl) rfl #[.int .i64 t203] rfl (by (try simp only [List.map_toArray, List.map_cons, List.map_nil]); first | done | rfl | (simp only [List.length_drop, List.length_take]; rfl)) ?_; (with_reducible refine (stratalaw11_num.calls t203 t210 _ A25.out).mono ?_); rintro e w' ⟨rfl, ⟨nd, rfl⟩⟩; refine ⟨_, rfl, ?_⟩; obtain ⟨Ao27, co27, eo27⟩ := Kd.S_slice HO205.out; subst eo27; obtain ⟨Ao28, co28, eo28⟩ := Kd.S_slice HO209.out; subst eo28))
            go_meet
            case rel => exact ⟨_, (((t202.length : Int) != (t206.length : Int))), (by first | rfl | (simp; done) | (simp [*]; done)), H', ⟨by have := HJ4.out; first | omega | exact Nat.le_refl _⟩, ⟨by (with_reducible repeat (first | apply Kd.S_alloc | apply Kd.S_drewN | apply Kd.S_drew)); exact Kd.S_mono HO205.out (fun _ hk => ⟨hk.2, ⟨hk.1.1.1.1.2, ⟨hk.1.1.1.2, ⟨hk.1.1.2, hk.1.2⟩⟩⟩⟩)⟩, ⟨by (with_reducible repeat (first | apply Kd.S_alloc | apply Kd.S_drewN | apply Kd.S_drew)); exact Kd.S_mono HO209.out (fun _ hk => ⟨hk.1.1.2, ⟨hk.1.1.1.1.2, ⟨hk.1.1.1.2, ⟨hk.1.2, hk.2⟩⟩⟩⟩)⟩, ⟨by (with_reducible repeat (first | apply Kd.R_alloc | apply Kd.R_drewN | apply Kd.R_drew)); exact HO_194001.out⟩, ⟨by (with_reducible repeat (first | apply Kd.R_alloc | apply Kd.R_drewN | apply Kd.R_drew)); exact HO_200001.out⟩, ⟨by (with_reducible repeat (first | refine blk_drewN ?_ _ | refine blk_drew ?_ | refine blk_alloc ?_ _)); exact BK193.out⟩, ⟨by (with_reducible repeat (first | refine blk_drewN ?_ _ | refine blk_drew ?_ | refine blk_alloc ?_ _)); exact BK199.out⟩, ⟨by repeat (first | (with_reducible first | exact HB.out | apply below_alloc | apply pw_below_drewN | apply below_drew1 | refine below_set ?_ GE193.out | refine below_set ?_ GE199.out) | exact HB.out)⟩⟩
          · rw [if_neg c26] at H
            have c26b0 : (t210 == t207) = false := beq_eq_false_iff_ne.mpr c26
            have c26b1 : (t210 != t207) = true := bne_iff_ne.mpr c26
            (first | rw [c26b0] | (simp only [i64_w, i32_w]; rw [c26b0]) | skip)
            have H' := Aside0.mk H
            clear H
            go_wp2_with (first | ((with_reducible refine gate_callee (f := 12) rfl ?_); refine goesL_ (some 46) rfl rfl Try.func12 (by kernel_rfl) rfl #[.int .i64 t203] rfl (by (try simp only [List.map_toArray, List.map_cons, List.map_nil]); first | done | rfl | (simp only [List.length_drop, List.length_take]; rfl)) ?_; (with_reducible refine (stratalaw11_num.calls t203 t210 _ A25.out).mono ?_); rintro e w' ⟨rfl, ⟨nd, rfl⟩⟩; refine ⟨_, rfl, ?_⟩))
            go_meet
            case rel => exact ⟨_, (true), (by first | rfl | (simp; done) | (simp [*]; done)), H', ⟨by have := HJ4.out; first | omega | exact Nat.le_refl _⟩, ⟨by (with_reducible repeat (first | apply Kd.S_alloc | apply Kd.S_drewN | apply Kd.S_drew)); exact Kd.S_mono HO205.out (fun _ hk => ⟨hk.2, ⟨hk.1.1.1.1.2, ⟨hk.1.1.1.2, ⟨hk.1.1.2, hk.1.2⟩⟩⟩⟩)⟩, ⟨by (with_reducible repeat (first | apply Kd.S_alloc | apply Kd.S_drewN | apply Kd.S_drew)); exact Kd.S_mono HO209.out (fun _ hk => ⟨hk.1.1.2, ⟨hk.1.1.1.1.2, ⟨hk.1.1.1.2, ⟨hk.1.2, hk.2⟩⟩⟩⟩)⟩, ⟨by (with_reducible repeat (first | apply Kd.R_alloc | apply Kd.R_drewN | apply Kd.R_drew)); exact HO_194001.out⟩, ⟨by (with_reducible repeat (first | apply Kd.R_alloc | apply Kd.R_drewN | apply Kd.R_drew)); exact HO_200001.out⟩, ⟨by (with_reducible repeat (first | refine blk_drewN ?_ _ | refine blk_drew ?_ | refine blk_alloc ?_ _)); exact BK193.out⟩, ⟨by (with_reducible repeat (first | refine blk_drewN ?_ _ | refine blk_drew ?_ | refine blk_alloc ?_ _)); exact BK199.out⟩, ⟨by repeat (first | (with_reducible first | exact HB.out | apply below_alloc | apply pw_below_drewN | apply below_drew1 | refine below_set ?_ GE193.out | refine below_set ?_ GE199.out) | exact HB.out)⟩⟩
        case rest =>
          clear HC22
          try clear c1
          try clear c2
          try clear p2
          try clear c5
          try clear c11
          try clear c12
          try clear c13
          try clear c14
          try clear c15
          try clear c16
          try clear c17
          try clear c19
          try clear c26
          try clear c26b0
          try clear c26b1
          try clear hcz13_0
          try clear hcz13_1
          try clear hcz15_0
          try clear hcz15_1
          try clear hcz8_0
          try clear hcz8_1
          try clear hfz13_0
          try clear hfz13_1
          try clear hfz15_0
          try clear hfz15_1
          try clear hfz8_0
          try clear hfz8_1
          try clear p2
          obtain ⟨kq, x55_21, rfl, HA, HJ21, HO_8, HO_10, HO_194001, HO_200001, BK193, BK199, HB⟩ := hcut
          cases kq with
          | zero => exact absurd HA.out (by simp [stratalaw11_RedoParses.j1])
          | succ kj21 =>
            have H := HA.out
            clear HA
            simp only [stratalaw11_RedoParses.j1] at H
            by_cases c29 : x55_21 = true
            · subst c29
              have H1 : (some false) = some r := by rw [if_pos rfl] at H; exact H
              clear H
              have H := H1
              clear H1
              obtain rfl := Option.some.inj H
              go_wp2
              go_ret
              exact ⟨by first | rfl | (simp [errW_none, errW_some] <;> rfl) | (simp [*, errW_none, errW_some] <;> rfl), by repeat (first | (with_reducible first | exact HB.out | apply below_alloc | apply pw_below_drewN | apply below_drew1 | refine below_set ?_ GE193.out | refine below_set ?_ GE199.out) | exact HB.out)⟩
            · replace c29 := Bool.eq_false_iff.mpr c29
              subst c29
              have H1 : (stratalaw11_RedoParses.l0 kj21 t202 t206 0) = some r := by rw [if_neg (show ¬ (false = true) by decide)] at H; exact H
              clear H
              have H := H1
              clear H1
              have H' := Aside0.mk H
              clear H
              go_wp2
              go_loopg [12] kj21 (fun kq v12 w' => ∃ (x12_3 : Int), v12 = .int .i64 x12_3 ∧ Aside0 (stratalaw11_RedoParses.l0 kq t202 t206 x12_3 = some r) ∧ Aside0 (kq ≤ kj21) ∧ Aside0 (Kd.S k25 25 w' w.heap.size (fun k_ => some k_ ≠ (v208 : Value).ownBlock ∧ some k_ ≠ ((.slice Ao9 t189.length co9) : Value).ownBlock ∧ some k_ ≠ ((.slice Ao14 t195.length co14) : Value).ownBlock ∧ k_ ≠ gb193 ∧ k_ ≠ gb199) v204 t202) ∧ Aside0 (Kd.S k25 25 w' w.heap.size (fun k_ => some k_ ≠ (v204 : Value).ownBlock ∧ some k_ ≠ ((.slice Ao9 t189.length co9) : Value).ownBlock ∧ some k_ ≠ ((.slice Ao14 t195.length co14) : Value).ownBlock ∧ k_ ≠ gb193 ∧ k_ ≠ gb199) v208 t206) ∧ Aside0 (Kd.R k36 36 w' w.heap.size (fun k_ => some k_ ≠ ((.slice Ao14 t195.length co14) : Value).ownBlock) (.slice Ao9 t189.length co9) t189) ∧ Aside0 (Kd.R k36 36 w' w.heap.size (fun k_ => some k_ ≠ ((.slice Ao9 t189.length co9) : Value).ownBlock) (.slice Ao14 t195.length co14) t195) ∧ Aside0 (w'.heap[gb193]? = some (.cells #[.int .u64 t188, (.slice Ao9 t189.length co9)] 25 (0, 0))) ∧ Aside0 (w'.heap[gb199]? = some (.cells #[.int .u64 t194, (.slice Ao14 t195.length co14)] 25 (0, 0))) ∧ Aside0 (Below w.heap.size w w'))
              case atStart => exact ⟨(0), (by first | rfl | (simp; done) | (simp [*]; done)), H', ⟨Nat.le_refl _⟩, ⟨by (with_reducible repeat (first | apply Kd.S_alloc | apply Kd.S_drewN | apply Kd.S_drew)); exact HO_8.out⟩, ⟨by (with_reducible repeat (first | apply Kd.S_alloc | apply Kd.S_drewN | apply Kd.S_drew)); exact HO_10.out⟩, ⟨by (with_reducible repeat (first | apply Kd.R_alloc | apply Kd.R_drewN | apply Kd.R_drew)); exact HO_194001.out⟩, ⟨by (with_reducible repeat (first | apply Kd.R_alloc | apply Kd.R_drewN | apply Kd.R_drew)); exact HO_200001.out⟩, ⟨by (with_reducible repeat (first | refine blk_drewN ?_ _ | refine blk_drew ?_ | refine blk_alloc ?_ _)); exact BK193.out⟩, ⟨by (with_reducible repeat (first | refine blk_drewN ?_ _ | refine blk_drew ?_ | refine blk_alloc ?_ _)); exact BK199.out⟩, ⟨by repeat (first | (with_reducible first | exact HB.out | apply below_alloc | apply pw_below_drewN | apply below_drew1 | refine below_set ?_ GE193.out | refine below_set ?_ GE199.out) | exact HB.out)⟩⟩
              case round =>
                clear H'
                try clear c1
                try clear c2
                try clear p2
                try clear c5
                try clear c11
                try clear c12
                try clear c13
                try clear c14
                try clear c15
                try clear c16
                try clear c17
                try clear c19
                try clear c26
                try clear c26b0
                try clear c26b1
                try clear c29
                try clear hcz13_0
                try clear hcz13_1
                try clear hcz15_0
                try clear hcz15_1
                try clear hcz8_0
                try clear hcz8_1
                try clear hfz13_0
                try clear hfz13_1
                try clear hfz15_0
                try clear hfz15_1
                try clear hfz8_0
                try clear hfz8_1
                try clear p2
                obtain ⟨x12_3, rfl, HA, HK3, HO_8, HO_10, HO_194001, HO_200001, BK193, BK199, HB⟩ := hrel
                cases gk with
                | zero => exact absurd HA.out (by simp [stratalaw11_RedoParses.l0])
                | succ k3 =>
                  have H := HA.out
                  clear HA
                  simp only [stratalaw11_RedoParses.l0] at H
                  by_cases c30 : x12_3 < (t202.length : Int)
                  · rw [if_pos c30] at H
                    have c30b0 : decide (x12_3 < (t202.length : Int)) = true := decide_eq_true c30
                    clear c30
                    by_cases c31 : 0 ≤ x12_3
                    · rw [if_pos c31] at H
                      have c31b0 : decide (0 ≤ x12_3) = true := decide_eq_true c31
                      clear c31
                      by_cases c32 : x12_3 < (t206.length : Int)
                      · rw [if_pos c32] at H
                        have c32b0 : decide (x12_3 < (t206.length : Int)) = true := decide_eq_true c32
                        clear c32
                        replace H := Option.bind_eq_some_iff.mp H
                        obtain ⟨t213, A330, H⟩ := H
                        replace H : (if t213 = true then (stratalaw11_RedoParses.l0 k3 t202 t206 (wrap64 (x12_3 + 1))) else (some false)) = some r := H
                        have A33 := Aside0.mk A330
                        clear A330
                        by_cases c34 : t213 = true
                        · subst c34
                          have H1 : (stratalaw11_RedoParses.l0 k3 t202 t206 (wrap64 (x12_3 + 1))) = some r := by rw [if_pos rfl] at H; exact H
                          clear H
                          have H := H1
                          clear H1
                          have H' := Aside0.mk H
                          clear H
                          obtain ⟨Ao35, co35, eo35⟩ := Kd.S_slice HO_8.out
                          subst eo35
                          try go_wp2
                          have n0_ := Aside0.mk (Kd.S_drew HO_8.out)
                          have n1_ := Aside0.mk (Kd.S_drew HO_10.out)
                          have n2_ := Aside0.mk (Kd.R_drew HO_194001.out)
                          have n3_ := Aside0.mk (Kd.R_drew HO_200001.out)
                          have n4_ := Aside0.mk (blk_drew BK193.out)
                          have n5_ := Aside0.mk (blk_drew BK199.out)
                          have n6_ := Aside0.mk (below_drew1 HB.out)
                          clear HO_8
                          clear HO_10
                          clear HO_194001
                          clear HO_200001
                          clear BK193
                          clear BK199
                          clear HB
                          have HO_8 := n0_
                          have HO_10 := n1_
                          have HO_194001 := n2_
                          have HO_200001 := n3_
                          have BK193 := n4_
                          have BK199 := n5_
                          have HB := n6_
                          clear n0_ n1_ n2_ n3_ n4_ n5_ n6_
                          have p211 : 0 ≤ (x12_3 : Int) := of_decide_eq_true (by first | (with_reducible assumption) | assumption)
                          have q211 : x12_3 < (t202.length : Int) := of_decide_eq_true (by first | (with_reducible assumption) | assumption)
                          obtain ⟨ad211, A211_1, c211_1, e211, hx211_0, hx211_1, hl211_1, hi211_1⟩ := at_T25 (Kd.S_reads' HO_8.out).2.2 x12_3 p211 q211
                          cases e211
                          obtain ⟨ce211, hce211, hMe211, hcc211⟩ := Kd.S_get HO_8.out z25 x12_3 p211 (by first | exact q211 | exact of_decide_eq_true (by first | (with_reducible assumption) | assumption) | (have e_ := (Kd.S_reads' HO_8.out).1; omega))
                          obtain ⟨ve211_1, rfl, ge211_1⟩ := k25_openM hMe211
                          have hv211_1 := hcc211 1 _ rfl
                          rw [add_field _ _ 1 (by omega)] at hv211_1
                          replace hv211_1 := Option.some.inj (hv211_1.symm.trans hx211_1)
                          rw [hv211_1] at ge211_1
                          have HL211_1 := Aside0.mk (show Kd.R k36 36 _ _ _ _ ((rd_T25 t202 x12_3).f1) from ge211_1)
                          clear hv211_1 ge211_1
                          clear hcc211 hce211
                          have HR211_1 := Aside0.mk hi211_1
                          have HC211_1 := Aside0.mk hl211_1
                          clear hi211_1 hl211_1
                          replace p211 := eq_true p211
                          replace q211 := eq_true q211
                          obtain ⟨Ao37, co37, eo37⟩ := Kd.S_slice HO_10.out
                          (first | subst eo37 | (injection eo37 with f1_ f2_ f3_; have f4_ := f1_.symm; have f5_ := f3_.symm; clear f1_ f2_ f3_; subst f4_; subst f5_))
                          have p212 : 0 ≤ (x12_3 : Int) := of_decide_eq_true (by first | (with_reducible assumption) | assumption)
                          have q212 : x12_3 < (t206.length : Int) := of_decide_eq_true (by first | (with_reducible assumption) | assumption)
                          obtain ⟨ad212, A212_1, c212_1, e212, hx212_0, hx212_1, hl212_1, hi212_1⟩ := at_T25 (Kd.S_reads' HO_10.out).2.2 x12_3 p212 q212
                          cases e212
                          obtain ⟨ce212, hce212, hMe212, hcc212⟩ := Kd.S_get HO_10.out z25 x12_3 p212 (by first | exact q212 | exact of_decide_eq_true (by first | (with_reducible assumption) | assumption) | (have e_ := (Kd.S_reads' HO_10.out).1; omega))
                          obtain ⟨ve212_1, rfl, ge212_1⟩ := k25_openM hMe212
                          have hv212_1 := hcc212 1 _ rfl
                          rw [add_field _ _ 1 (by omega)] at hv212_1
                          replace hv212_1 := Option.some.inj (hv212_1.symm.trans hx212_1)
                          rw [hv212_1] at ge212_1
                          have HL212_1 := Aside0.mk (show Kd.R k36 36 _ _ _ _ ((rd_T25 t206 x12_3).f1) from ge212_1)
                          clear hv212_1 ge212_1
                          clear hcc212 hce212
                          have HR212_1 := Aside0.mk hi212_1
                          have HC212_1 := Aside0.mk hl212_1
                          clear hi212_1 hl212_1
                          replace p212 := eq_true p212
                          replace q212 := eq_true q212
                          refine start_ (n := 10) (S := fun w' => w'.cell? (ad211.add ((x12_3).toNat * 2)) = some (.int .u64 ((rd_T25 t202 x12_3).f0)) ∧ w'.cell? ⟨(ad211.add ((x12_3).toNat * 2)).block, (ad211.add ((x12_3).toNat * 2)).off + 1, none⟩ = some (.slice A211_1 ((rd_T25 t202 x12_3).f1).length c211_1) ∧ w'.cell? (ad212.add ((x12_3).toNat * 2)) = some (.int .u64 ((rd_T25 t206 x12_3).f0)) ∧ w'.cell? ⟨(ad212.add ((x12_3).toNat * 2)).block, (ad212.add ((x12_3).toNat * 2)).off + 1, none⟩ = some (.slice A212_1 ((rd_T25 t206 x12_3).f1).length c212_1)) (ds := []) #[false, false, false, false, false, false, false, false, false, false] (by kernel_rfl) rfl rfl ⟨hx211_0, hx211_1, hx212_0, hx212_1⟩ (fun hHeld => ?_); refine with_tabW stratalaw11_RedoParses.tab13 stratalaw11_RedoParses.bits13 (fun HT_ HW_ => ?_)
                          generalize wr.drew = w36 at HO_8 HO_10 HO_194001 HO_200001 BK193 BK199 HB HL211_1 HL212_1 HR211_1 HR212_1 hx211_0 hx211_1 hx212_0 hx212_1 hHeld ⊢
                          refine pure_ (i := 0) (N := some 62) (v := ?_) (a' := ?_) #[true, false, false, false, false, false, false, false, false, false] rfl rfl (any_of HT_.out (by kernel_rfl)) (fun _ _ _ h => h) (Or.inl ⟨by rfl, ?_⟩) ?_ ?_
                          rotate_left
                          · intro w'
                            go_simp
                            with_reducible rfl
                          rotate_left
                          · simp only [Act.put, List.setIfInBounds_toArray, List.set_cons_zero, List.set_cons_succ, i64_w, i32_w]
                            rfl
                          refine pure_ (i := 1) (N := some 63) (v := ?_) (a' := ?_) #[true, true, false, false, false, false, false, false, false, false] rfl rfl (any_of HT_.out (by kernel_rfl)) (fun _ _ _ h => h) (Or.inl ⟨by rfl, ?_⟩) ?_ ?_
                          rotate_left
                          · intro w'
                            go_simp
                            with_reducible rfl
                          rotate_left
                          · simp only [Act.put, List.setIfInBounds_toArray, List.set_cons_zero, List.set_cons_succ, i64_w, i32_w]
                            rfl
                          refine pure_ (i := 2) (N := some 64) (v := ?_) (a' := ?_) #[true, true, true, false, false, false, false, false, false, false] rfl rfl (any_of HT_.out (by kernel_rfl)) (fun _ _ _ h => h) (Or.inl ⟨by rfl, ?_⟩) ?_ ?_
                          rotate_left
                          · intro w'
                            go_simp
                            with_reducible rfl
                          rotate_left
                          · simp only [Act.put, List.setIfInBounds_toArray, List.set_cons_zero, List.set_cons_succ, i64_w, i32_w]
                            rfl
                          refine pure_ (i := 4) (N := some 66) (v := ?_) (a' := ?_) #[true, true, true, false, true, false, false, false, false, false] rfl rfl (any_of HT_.out (by kernel_rfl)) (fun _ _ _ h => h) (Or.inl ⟨by rfl, ?_⟩) ?_ ?_
                          rotate_left
                          · intro w'
                            go_simp
                            with_reducible rfl
                          rotate_left
                          · simp only [Act.put, List.setIfInBounds_toArray, List.set_cons_zero, List.set_cons_succ, i64_w, i32_w]
                            rfl
                          refine pure_ (i := 5) (N := some 67) (v := ?_) (a' := ?_) #[true, true, true, false, true, true, false, false, false, false] rfl rfl (any_of HT_.out (by kernel_rfl)) (fun _ _ _ h => h) (Or.inl ⟨by rfl, ?_⟩) ?_ ?_
                          rotate_left
                          · intro w'
                            go_simp
                            with_reducible rfl
                          rotate_left
                          · simp only [Act.put, List.setIfInBounds_toArray, List.set_cons_zero, List.set_cons_succ, i64_w, i32_w]
                            rfl
                          refine pure_ (i := 6) (N := some 68) (v := ?_) (a' := ?_) #[true, true, true, false, true, true, true, false, false, false] rfl rfl (any_of HT_.out (by kernel_rfl)) (fun _ _ _ h => h) (Or.inl ⟨by rfl, ?_⟩) ?_ ?_
                          rotate_left
                          · intro w'
                            go_simp
                            with_reducible rfl
                          rotate_left
                          · simp only [Act.put, List.setIfInBounds_toArray, List.set_cons_zero, List.set_cons_succ, i64_w, i32_w]
                            rfl
                          refine take_ (i := 3) (N := some 65) (v := ?_) (a' := ?_) #[true, true, true, true, true, true, true, false, false, false] rfl rfl (take_ofW HT_.out HW_.out (by kernel_rfl)) (fun _ _ _ h => h) (Or.inl ⟨by rfl, ?_⟩) hHeld ?_ ?_
                          rotate_left
                          · rintro w' ⟨s0, s1, s2, s3⟩
                            go_simp
                            with_reducible rfl
                          rotate_left
                          · simp only [Act.put, List.setIfInBounds_toArray, List.set_cons_zero, List.set_cons_succ, i64_w, i32_w]
                            rfl
                          refine take_ (i := 7) (N := some 69) (v := ?_) (a' := ?_) #[true, true, true, true, true, true, true, true, false, false] rfl rfl (take_ofW HT_.out HW_.out (by kernel_rfl)) (fun _ _ _ h => h) (Or.inl ⟨by rfl, ?_⟩) hHeld ?_ ?_
                          rotate_left
                          · rintro w' ⟨s0, s1, s2, s3⟩
                            go_simp
                            with_reducible rfl
                          rotate_left
                          · simp only [Act.put, List.setIfInBounds_toArray, List.set_cons_zero, List.set_cons_succ, i64_w, i32_w]
                            rfl
                          refine one_ (i := 8) (N := some 70) #[true, true, true, true, true, true, true, true, true, false] rfl rfl (one_of HT_.out (by kernel_rfl)) (by decide) (fun K hK => ?_)
                          refine goes_ Try.func11 (by kernel_rfl) rfl #[.agg #[.int .u64 ((rd_T25 t202 x12_3).f0), .slice A211_1 ((rd_T25 t202 x12_3).f1).length c211_1], .agg #[.int .u64 ((rd_T25 t206 x12_3).f0), .slice A212_1 ((rd_T25 t206 x12_3).f1).length c212_1]] (by rfl) rfl rfl (by (try simp only [List.map_toArray, List.map_cons, List.map_nil]); first | done | rfl | (simp only [List.length_drop, List.length_take]; rfl)) ?_
                          with_reducible refine (stratalaw11_sameCommit.calls k3 ((rd_T25 t202 x12_3).f0) _ _ ((rd_T25 t202 x12_3).f1) ((rd_T25 t206 x12_3).f0) _ _ ((rd_T25 t206 x12_3).f1) true _ ?side1 ?side2 ?side3 ?side4 A33.out).mono ?_
                          (case side1 => repeat (first | exact (by repeat (first | (with_reducible exact HR211_1.out) | (with_reducible refine Kd.C_alloc ?_ _) | (with_reducible refine Kd.C_drewN ?_ _) | (with_reducible refine Kd.C_drew ?_) | exact HR211_1.out)) | (with_reducible refine Kd.C_alloc ?_ _) | (with_reducible refine Kd.C_drewN ?_ _) | (with_reducible refine Kd.C_drew ?_)))
                          (case side2 => exact HC211_1.out)
                          (case side3 => repeat (first | exact (by repeat (first | (with_reducible exact HR212_1.out) | (with_reducible refine Kd.C_alloc ?_ _) | (with_reducible refine Kd.C_drewN ?_ _) | (with_reducible refine Kd.C_drew ?_) | exact HR212_1.out)) | (with_reducible refine Kd.C_alloc ?_ _) | (with_reducible refine Kd.C_drewN ?_ _) | (with_reducible refine Kd.C_drew ?_)))
                          (case side4 => exact HC212_1.out)
                          rintro e w38 ⟨rfl, hb⟩
                          have HS0_ := (hb.cell (World.block_lt_of_cell? _ _ (hHeld.1))).trans (hHeld.1)
                          have HS1_ := (hb.cell (World.block_lt_of_cell? _ _ (hHeld.2.1))).trans (hHeld.2.1)
                          have HS2_ := (hb.cell (World.block_lt_of_cell? _ _ (hHeld.2.2.1))).trans (hHeld.2.2.1)
                          have HS3_ := (hb.cell (World.block_lt_of_cell? _ _ (hHeld.2.2.2))).trans (hHeld.2.2.2)
                          refine ⟨_, rfl, ?_⟩
                          have n0_ := Aside0.mk (Kd.S_below (by (with_reducible repeat (first | apply Kd.S_alloc | apply Kd.S_drewN | apply Kd.S_drew)); exact HO_8.out) hb)
                          have n1_ := Aside0.mk (Kd.S_below (by (with_reducible repeat (first | apply Kd.S_alloc | apply Kd.S_drewN | apply Kd.S_drew)); exact HO_10.out) hb)
                          have n2_ := Aside0.mk (Kd.R_below (by (with_reducible repeat (first | apply Kd.R_alloc | apply Kd.R_drewN | apply Kd.R_drew)); exact HO_194001.out) hb)
                          have n3_ := Aside0.mk (Kd.R_below (by (with_reducible repeat (first | apply Kd.R_alloc | apply Kd.R_drewN | apply Kd.R_drew)); exact HO_200001.out) hb)
                          have n4_ := Aside0.mk (Kd.R_below (by (with_reducible repeat (first | apply Kd.R_alloc | apply Kd.R_drewN | apply Kd.R_drew)); exact HL211_1.out) hb)
                          have n5_ := Aside0.mk (Kd.R_below (by (with_reducible repeat (first | apply Kd.R_alloc | apply Kd.R_drewN | apply Kd.R_drew)); exact HL212_1.out) hb)
                          have n6_ := Aside0.mk (blk_below (g := gb193) (o := .cells #[.int .u64 t188, .slice Ao9 t189.length co9] 25 (0, 0)) (by (with_reducible repeat (first | refine blk_drewN ?_ _ | refine blk_drew ?_ | refine blk_alloc ?_ _)); exact BK193.out) hb)
                          have n7_ := Aside0.mk (blk_below (g := gb199) (o := .cells #[.int .u64 t194, .slice Ao14 t195.length co14] 25 (0, 0)) (by (with_reducible repeat (first | refine blk_drewN ?_ _ | refine blk_drew ?_ | refine blk_alloc ?_ _)); exact BK199.out) hb)
                          have n8_ := Aside0.mk (Kd.C_below (by repeat (first | (with_reducible exact HR211_1.out) | (with_reducible refine Kd.C_alloc ?_ _) | (with_reducible refine Kd.C_drewN ?_ _) | (with_reducible refine Kd.C_drew ?_) | exact HR211_1.out)) hb)
                          have n9_ := Aside0.mk (Kd.C_below (by repeat (first | (with_reducible exact HR212_1.out) | (with_reducible refine Kd.C_alloc ?_ _) | (with_reducible refine Kd.C_drewN ?_ _) | (with_reducible refine Kd.C_drew ?_) | exact HR212_1.out)) hb)
                          have n10_ := Aside0.mk (below_step (by repeat (first | (with_reducible first | exact HB.out | apply below_alloc | apply pw_below_drewN | apply below_drew1 | refine below_set ?_ GE193.out | refine below_set ?_ GE199.out) | exact HB.out)) hb)
                          clear HO_8
                          clear HO_10
                          clear HO_194001
                          clear HO_200001
                          clear HL211_1
                          clear HL212_1
                          clear BK193
                          clear BK199
                          clear HR211_1
                          clear HR212_1
                          clear HB
                          have HO_8 := n0_
                          have HO_10 := n1_
                          have HO_194001 := n2_
                          have HO_200001 := n3_
                          have HL211_1 := n4_
                          have HL212_1 := n5_
                          have BK193 := n6_
                          have BK199 := n7_
                          have HR211_1 := n8_
                          have HR212_1 := n9_
                          have HB := n10_
                          clear n0_ n1_ n2_ n3_ n4_ n5_ n6_ n7_ n8_ n9_ n10_
                          (try clear hb)
                          (try clear hb2)
                          (try clear hk)
                          (try clear hi)
                          refine hK.out _ _ ⟨HS0_, HS1_, HS2_, HS3_⟩ (fun hHeld => ?_)
                          clear hK K
                          refine norm_ (a' := ?_) ?_ ?_
                          rotate_left
                          · show Act.put _ (some 70) _ = _
                            simp only [Act.put, List.setIfInBounds_toArray, List.set_cons_zero, List.set_cons_succ, i64_w, i32_w]
                            rfl
                          refine pure_ (i := 9) (N := some 13) (v := ?_) (a' := ?_) #[true, true, true, true, true, true, true, true, true, true] rfl rfl (any_of HT_.out (by kernel_rfl)) (fun _ _ _ h => h) (Or.inl ⟨by rfl, ?_⟩) ?_ ?_
                          rotate_left
                          · intro w'
                            go_simp
                            with_reducible rfl
                          rotate_left
                          · simp only [Act.put, List.setIfInBounds_toArray, List.set_cons_zero, List.set_cons_succ, i64_w, i32_w]
                            rfl
                          refine done_ (done_of HT_.out (by kernel_rfl)) ?_
                          try go_wp2
                          go_roundg k3
                          case measure => have := HJ4.out; have := HJ21.out; have := HK3.out; omega
                          case rel => exact ⟨(wrap64 (x12_3 + 1)), (by first | rfl | (simp; done) | (simp [*]; done)), H', ⟨by have := HJ4.out; have := HJ21.out; have := HK3.out; omega⟩, ⟨by (with_reducible repeat (first | apply Kd.S_alloc | apply Kd.S_drewN | apply Kd.S_drew)); exact HO_8.out⟩, ⟨by (with_reducible repeat (first | apply Kd.S_alloc | apply Kd.S_drewN | apply Kd.S_drew)); exact HO_10.out⟩, ⟨by (with_reducible repeat (first | apply Kd.R_alloc | apply Kd.R_drewN | apply Kd.R_drew)); exact HO_194001.out⟩, ⟨by (with_reducible repeat (first | apply Kd.R_alloc | apply Kd.R_drewN | apply Kd.R_drew)); exact HO_200001.out⟩, ⟨by (with_reducible repeat (first | refine blk_drewN ?_ _ | refine blk_drew ?_ | refine blk_alloc ?_ _)); exact BK193.out⟩, ⟨by (with_reducible repeat (first | refine blk_drewN ?_ _ | refine blk_drew ?_ | refine blk_alloc ?_ _)); exact BK199.out⟩, ⟨by repeat (first | (with_reducible first | exact HB.out | apply below_alloc | apply pw_below_drewN | apply below_drew1 | refine below_set ?_ GE193.out | refine below_set ?_ GE199.out) | exact HB.out)⟩⟩
                        · replace c34 := Bool.eq_false_iff.mpr c34
                          subst c34
                          have H1 : (some false) = some r := by rw [if_neg (show ¬ (false = true) by decide)] at H; exact H
                          clear H
                          have H := H1
                          clear H1
                          obtain rfl := Option.some.inj H
                          obtain ⟨Ao39, co39, eo39⟩ := Kd.S_slice HO_8.out
                          subst eo39
                          try go_wp2
                          have n0_ := Aside0.mk (Kd.S_drew HO_8.out)
                          have n1_ := Aside0.mk (Kd.S_drew HO_10.out)
                          have n2_ := Aside0.mk (Kd.R_drew HO_194001.out)
                          have n3_ := Aside0.mk (Kd.R_drew HO_200001.out)
                          have n4_ := Aside0.mk (blk_drew BK193.out)
                          have n5_ := Aside0.mk (blk_drew BK199.out)
                          have n6_ := Aside0.mk (below_drew1 HB.out)
                          clear HO_8
                          clear HO_10
                          clear HO_194001
                          clear HO_200001
                          clear BK193
                          clear BK199
                          clear HB
                          have HO_8 := n0_
                          have HO_10 := n1_
                          have HO_194001 := n2_
                          have HO_200001 := n3_
                          have BK193 := n4_
                          have BK199 := n5_
                          have HB := n6_
                          clear n0_ n1_ n2_ n3_ n4_ n5_ n6_
                          have p211 : 0 ≤ (x12_3 : Int) := of_decide_eq_true (by first | (with_reducible assumption) | assumption)
                          have q211 : x12_3 < (t202.length : Int) := of_decide_eq_true (by first | (with_reducible assumption) | assumption)
                          obtain ⟨ad211, A211_1, c211_1, e211, hx211_0, hx211_1, hl211_1, hi211_1⟩ := at_T25 (Kd.S_reads' HO_8.out).2.2 x12_3 p211 q211
                          cases e211
                          obtain ⟨ce211, hce211, hMe211, hcc211⟩ := Kd.S_get HO_8.out z25 x12_3 p211 (by first | exact q211 | exact of_decide_eq_true (by first | (with_reducible assumption) | assumption) | (have e_ := (Kd.S_reads' HO_8.out).1; omega))
                          obtain ⟨ve211_1, rfl, ge211_1⟩ := k25_openM hMe211
                          have hv211_1 := hcc211 1 _ rfl
                          rw [add_field _ _ 1 (by omega)] at hv211_1
                          replace hv211_1 := Option.some.inj (hv211_1.symm.trans hx211_1)
                          rw [hv211_1] at ge211_1
                          have HL211_1 := Aside0.mk (show Kd.R k36 36 _ _ _ _ ((rd_T25 t202 x12_3).f1) from ge211_1)
                          clear hv211_1 ge211_1
                          clear hcc211 hce211
                          have HR211_1 := Aside0.mk hi211_1
                          have HC211_1 := Aside0.mk hl211_1
                          clear hi211_1 hl211_1
                          replace p211 := eq_true p211
                          replace q211 := eq_true q211
                          obtain ⟨Ao41, co41, eo41⟩ := Kd.S_slice HO_10.out
                          (first | subst eo41 | (injection eo41 with f1_ f2_ f3_; have f4_ := f1_.symm; have f5_ := f3_.symm; clear f1_ f2_ f3_; subst f4_; subst f5_))
                          have p212 : 0 ≤ (x12_3 : Int) := of_decide_eq_true (by first | (with_reducible assumption) | assumption)
                          have q212 : x12_3 < (t206.length : Int) := of_decide_eq_true (by first | (with_reducible assumption) | assumption)
                          obtain ⟨ad212, A212_1, c212_1, e212, hx212_0, hx212_1, hl212_1, hi212_1⟩ := at_T25 (Kd.S_reads' HO_10.out).2.2 x12_3 p212 q212
                          cases e212
                          obtain ⟨ce212, hce212, hMe212, hcc212⟩ := Kd.S_get HO_10.out z25 x12_3 p212 (by first | exact q212 | exact of_decide_eq_true (by first | (with_reducible assumption) | assumption) | (have e_ := (Kd.S_reads' HO_10.out).1; omega))
                          obtain ⟨ve212_1, rfl, ge212_1⟩ := k25_openM hMe212
                          have hv212_1 := hcc212 1 _ rfl
                          rw [add_field _ _ 1 (by omega)] at hv212_1
                          replace hv212_1 := Option.some.inj (hv212_1.symm.trans hx212_1)
                          rw [hv212_1] at ge212_1
                          have HL212_1 := Aside0.mk (show Kd.R k36 36 _ _ _ _ ((rd_T25 t206 x12_3).f1) from ge212_1)
                          clear hv212_1 ge212_1
                          clear hcc212 hce212
                          have HR212_1 := Aside0.mk hi212_1
                          have HC212_1 := Aside0.mk hl212_1
                          clear hi212_1 hl212_1
                          replace p212 := eq_true p212
                          replace q212 := eq_true q212
                          refine start_ (n := 10) (S := fun w' => w'.cell? (ad211.add ((x12_3).toNat * 2)) = some (.int .u64 ((rd_T25 t202 x12_3).f0)) ∧ w'.cell? ⟨(ad211.add ((x12_3).toNat * 2)).block, (ad211.add ((x12_3).toNat * 2)).off + 1, none⟩ = some (.slice A211_1 ((rd_T25 t202 x12_3).f1).length c211_1) ∧ w'.cell? (ad212.add ((x12_3).toNat * 2)) = some (.int .u64 ((rd_T25 t206 x12_3).f0)) ∧ w'.cell? ⟨(ad212.add ((x12_3).toNat * 2)).block, (ad212.add ((x12_3).toNat * 2)).off + 1, none⟩ = some (.slice A212_1 ((rd_T25 t206 x12_3).f1).length c212_1)) (ds := []) #[false, false, false, false, false, false, false, false, false, false] (by kernel_rfl) rfl rfl ⟨hx211_0, hx211_1, hx212_0, hx212_1⟩ (fun hHeld => ?_); refine with_tabW stratalaw11_RedoParses.tab13 stratalaw11_RedoParses.bits13 (fun HT_ HW_ => ?_)
                          generalize wr.drew = w40 at HO_8 HO_10 HO_194001 HO_200001 BK193 BK199 HB HL211_1 HL212_1 HR211_1 HR212_1 hx211_0 hx211_1 hx212_0 hx212_1 hHeld ⊢
                          refine pure_ (i := 0) (N := some 62) (v := ?_) (a' := ?_) #[true, false, false, false, false, false, false, false, false, false] rfl rfl (any_of HT_.out (by kernel_rfl)) (fun _ _ _ h => h) (Or.inl ⟨by rfl, ?_⟩) ?_ ?_
                          rotate_left
                          · intro w'
                            go_simp
                            with_reducible rfl
                          rotate_left
                          · simp only [Act.put, List.setIfInBounds_toArray, List.set_cons_zero, List.set_cons_succ, i64_w, i32_w]
                            rfl
                          refine pure_ (i := 1) (N := some 63) (v := ?_) (a' := ?_) #[true, true, false, false, false, false, false, false, false, false] rfl rfl (any_of HT_.out (by kernel_rfl)) (fun _ _ _ h => h) (Or.inl ⟨by rfl, ?_⟩) ?_ ?_
                          rotate_left
                          · intro w'
                            go_simp
                            with_reducible rfl
                          rotate_left
                          · simp only [Act.put, List.setIfInBounds_toArray, List.set_cons_zero, List.set_cons_succ, i64_w, i32_w]
                            rfl
                          refine pure_ (i := 2) (N := some 64) (v := ?_) (a' := ?_) #[true, true, true, false, false, false, false, false, false, false] rfl rfl (any_of HT_.out (by kernel_rfl)) (fun _ _ _ h => h) (Or.inl ⟨by rfl, ?_⟩) ?_ ?_
                          rotate_left
                          · intro w'
                            go_simp
                            with_reducible rfl
                          rotate_left
                          · simp only [Act.put, List.setIfInBounds_toArray, List.set_cons_zero, List.set_cons_succ, i64_w, i32_w]
                            rfl
                          refine pure_ (i := 4) (N := some 66) (v := ?_) (a' := ?_) #[true, true, true, false, true, false, false, false, false, false] rfl rfl (any_of HT_.out (by kernel_rfl)) (fun _ _ _ h => h) (Or.inl ⟨by rfl, ?_⟩) ?_ ?_
                          rotate_left
                          · intro w'
                            go_simp
                            with_reducible rfl
                          rotate_left
                          · simp only [Act.put, List.setIfInBounds_toArray, List.set_cons_zero, List.set_cons_succ, i64_w, i32_w]
                            rfl
                          refine pure_ (i := 5) (N := some 67) (v := ?_) (a' := ?_) #[true, true, true, false, true, true, false, false, false, false] rfl rfl (any_of HT_.out (by kernel_rfl)) (fun _ _ _ h => h) (Or.inl ⟨by rfl, ?_⟩) ?_ ?_
                          rotate_left
                          · intro w'
                            go_simp
                            with_reducible rfl
                          rotate_left
                          · simp only [Act.put, List.setIfInBounds_toArray, List.set_cons_zero, List.set_cons_succ, i64_w, i32_w]
                            rfl
                          refine pure_ (i := 6) (N := some 68) (v := ?_) (a' := ?_) #[true, true, true, false, true, true, true, false, false, false] rfl rfl (any_of HT_.out (by kernel_rfl)) (fun _ _ _ h => h) (Or.inl ⟨by rfl, ?_⟩) ?_ ?_
                          rotate_left
                          · intro w'
                            go_simp
                            with_reducible rfl
                          rotate_left
                          · simp only [Act.put, List.setIfInBounds_toArray, List.set_cons_zero, List.set_cons_succ, i64_w, i32_w]
                            rfl
                          refine take_ (i := 3) (N := some 65) (v := ?_) (a' := ?_) #[true, true, true, true, true, true, true, false, false, false] rfl rfl (take_ofW HT_.out HW_.out (by kernel_rfl)) (fun _ _ _ h => h) (Or.inl ⟨by rfl, ?_⟩) hHeld ?_ ?_
                          rotate_left
                          · rintro w' ⟨s0, s1, s2, s3⟩
                            go_simp
                            with_reducible rfl
                          rotate_left
                          · simp only [Act.put, List.setIfInBounds_toArray, List.set_cons_zero, List.set_cons_succ, i64_w, i32_w]
                            rfl
                          refine take_ (i := 7) (N := some 69) (v := ?_) (a' := ?_) #[true, true, true, true, true, true, true, true, false, false] rfl rfl (take_ofW HT_.out HW_.out (by kernel_rfl)) (fun _ _ _ h => h) (Or.inl ⟨by rfl, ?_⟩) hHeld ?_ ?_
                          rotate_left
                          · rintro w' ⟨s0, s1, s2, s3⟩
                            go_simp
                            with_reducible rfl
                          rotate_left
                          · simp only [Act.put, List.setIfInBounds_toArray, List.set_cons_zero, List.set_cons_succ, i64_w, i32_w]
                            rfl
                          refine one_ (i := 8) (N := some 70) #[true, true, true, true, true, true, true, true, true, false] rfl rfl (one_of HT_.out (by kernel_rfl)) (by decide) (fun K hK => ?_)
                          refine goes_ Try.func11 (by kernel_rfl) rfl #[.agg #[.int .u64 ((rd_T25 t202 x12_3).f0), .slice A211_1 ((rd_T25 t202 x12_3).f1).length c211_1], .agg #[.int .u64 ((rd_T25 t206 x12_3).f0), .slice A212_1 ((rd_T25 t206 x12_3).f1).length c212_1]] (by rfl) rfl rfl (by (try simp only [List.map_toArray, List.map_cons, List.map_nil]); first | done | rfl | (simp only [List.length_drop, List.length_take]; rfl)) ?_
                          with_reducible refine (stratalaw11_sameCommit.calls k3 ((rd_T25 t202 x12_3).f0) _ _ ((rd_T25 t202 x12_3).f1) ((rd_T25 t206 x12_3).f0) _ _ ((rd_T25 t206 x12_3).f1) false _ ?side1 ?side2 ?side3 ?side4 A33.out).mono ?_
                          (case side1 => repeat (first | exact (by repeat (first | (with_reducible exact HR211_1.out) | (with_reducible refine Kd.C_alloc ?_ _) | (with_reducible refine Kd.C_drewN ?_ _) | (with_reducible refine Kd.C_drew ?_) | exact HR211_1.out)) | (with_reducible refine Kd.C_alloc ?_ _) | (with_reducible refine Kd.C_drewN ?_ _) | (with_reducible refine Kd.C_drew ?_)))
                          (case side2 => exact HC211_1.out)
                          (case side3 => repeat (first | exact (by repeat (first | (with_reducible exact HR212_1.out) | (with_reducible refine Kd.C_alloc ?_ _) | (with_reducible refine Kd.C_drewN ?_ _) | (with_reducible refine Kd.C_drew ?_) | exact HR212_1.out)) | (with_reducible refine Kd.C_alloc ?_ _) | (with_reducible refine Kd.C_drewN ?_ _) | (with_reducible refine Kd.C_drew ?_)))
                          (case side4 => exact HC212_1.out)
                          rintro e w42 ⟨rfl, hb⟩
                          have HS0_ := (hb.cell (World.block_lt_of_cell? _ _ (hHeld.1))).trans (hHeld.1)
                          have HS1_ := (hb.cell (World.block_lt_of_cell? _ _ (hHeld.2.1))).trans (hHeld.2.1)
                          have HS2_ := (hb.cell (World.block_lt_of_cell? _ _ (hHeld.2.2.1))).trans (hHeld.2.2.1)
                          have HS3_ := (hb.cell (World.block_lt_of_cell? _ _ (hHeld.2.2.2))).trans (hHeld.2.2.2)
                          refine ⟨_, rfl, ?_⟩
                          have n0_ := Aside0.mk (Kd.S_below (by (with_reducible repeat (first | apply Kd.S_alloc | apply Kd.S_drewN | apply Kd.S_drew)); exact HO_8.out) hb)
                          have n1_ := Aside0.mk (Kd.S_below (by (with_reducible repeat (first | apply Kd.S_alloc | apply Kd.S_drewN | apply Kd.S_drew)); exact HO_10.out) hb)
                          have n2_ := Aside0.mk (Kd.R_below (by (with_reducible repeat (first | apply Kd.R_alloc | apply Kd.R_drewN | apply Kd.R_drew)); exact HO_194001.out) hb)
                          have n3_ := Aside0.mk (Kd.R_below (by (with_reducible repeat (first | apply Kd.R_alloc | apply Kd.R_drewN | apply Kd.R_drew)); exact HO_200001.out) hb)
                          have n4_ := Aside0.mk (Kd.R_below (by (with_reducible repeat (first | apply Kd.R_alloc | apply Kd.R_drewN | apply Kd.R_drew)); exact HL211_1.out) hb)
                          have n5_ := Aside0.mk (Kd.R_below (by (with_reducible repeat (first | apply Kd.R_alloc | apply Kd.R_drewN | apply Kd.R_drew)); exact HL212_1.out) hb)
                          have n6_ := Aside0.mk (blk_below (g := gb193) (o := .cells #[.int .u64 t188, .slice Ao9 t189.length co9] 25 (0, 0)) (by (with_reducible repeat (first | refine blk_drewN ?_ _ | refine blk_drew ?_ | refine blk_alloc ?_ _)); exact BK193.out) hb)
                          have n7_ := Aside0.mk (blk_below (g := gb199) (o := .cells #[.int .u64 t194, .slice Ao14 t195.length co14] 25 (0, 0)) (by (with_reducible repeat (first | refine blk_drewN ?_ _ | refine blk_drew ?_ | refine blk_alloc ?_ _)); exact BK199.out) hb)
                          have n8_ := Aside0.mk (Kd.C_below (by repeat (first | (with_reducible exact HR211_1.out) | (with_reducible refine Kd.C_alloc ?_ _) | (with_reducible refine Kd.C_drewN ?_ _) | (with_reducible refine Kd.C_drew ?_) | exact HR211_1.out)) hb)
                          have n9_ := Aside0.mk (Kd.C_below (by repeat (first | (with_reducible exact HR212_1.out) | (with_reducible refine Kd.C_alloc ?_ _) | (with_reducible refine Kd.C_drewN ?_ _) | (with_reducible refine Kd.C_drew ?_) | exact HR212_1.out)) hb)
                          have n10_ := Aside0.mk (below_step (by repeat (first | (with_reducible first | exact HB.out | apply below_alloc | apply pw_below_drewN | apply below_drew1 | refine below_set ?_ GE193.out | refine below_set ?_ GE199.out) | exact HB.out)) hb)
                          clear HO_8
                          clear HO_10
                          clear HO_194001
                          clear HO_200001
                          clear HL211_1
                          clear HL212_1
                          clear BK193
                          clear BK199
                          clear HR211_1
                          clear HR212_1
                          clear HB
                          have HO_8 := n0_
                          have HO_10 := n1_
                          have HO_194001 := n2_
                          have HO_200001 := n3_
                          have HL211_1 := n4_
                          have HL212_1 := n5_
                          have BK193 := n6_
                          have BK199 := n7_
                          have HR211_1 := n8_
                          have HR212_1 := n9_
                          have HB := n10_
                          clear n0_ n1_ n2_ n3_ n4_ n5_ n6_ n7_ n8_ n9_ n10_
                          (try clear hb)
                          (try clear hb2)
                          (try clear hk)
                          (try clear hi)
                          refine hK.out _ _ ⟨HS0_, HS1_, HS2_, HS3_⟩ (fun hHeld => ?_)
                          clear hK K
                          refine norm_ (a' := ?_) ?_ ?_
                          rotate_left
                          · show Act.put _ (some 70) _ = _
                            simp only [Act.put, List.setIfInBounds_toArray, List.set_cons_zero, List.set_cons_succ, i64_w, i32_w]
                            rfl
                          refine pure_ (i := 9) (N := some 13) (v := ?_) (a' := ?_) #[true, true, true, true, true, true, true, true, true, true] rfl rfl (any_of HT_.out (by kernel_rfl)) (fun _ _ _ h => h) (Or.inl ⟨by rfl, ?_⟩) ?_ ?_
                          rotate_left
                          · intro w'
                            go_simp
                            with_reducible rfl
                          rotate_left
                          · simp only [Act.put, List.setIfInBounds_toArray, List.set_cons_zero, List.set_cons_succ, i64_w, i32_w]
                            rfl
                          refine done_ (done_of HT_.out (by kernel_rfl)) ?_
                          try go_wp2
                          go_ret
                          exact ⟨by first | rfl | (simp [errW_none, errW_some] <;> rfl) | (simp [*, errW_none, errW_some] <;> rfl), by repeat (first | (with_reducible first | exact HB.out | apply below_alloc | apply pw_below_drewN | apply below_drew1 | refine below_set ?_ GE193.out | refine below_set ?_ GE199.out) | exact HB.out)⟩
                      · rw [if_neg c32] at H
                        exact absurd H (by simp)
                    · rw [if_neg c31] at H
                      exact absurd H (by simp)
                  · rw [if_neg c30] at H
                    have c30b0 : decide (x12_3 < (t202.length : Int)) = false := decide_eq_false c30
                    clear c30
                    obtain rfl := Option.some.inj H
                    obtain ⟨Ao43, co43, eo43⟩ := Kd.S_slice HO_8.out
                    subst eo43
                    go_wp2
                    go_ret
                    exact ⟨by first | rfl | (simp [errW_none, errW_some] <;> rfl) | (simp [*, errW_none, errW_some] <;> rfl), by repeat (first | (with_reducible first | exact HB.out | apply below_alloc | apply pw_below_drewN | apply below_drew1 | refine below_set ?_ GE193.out | refine below_set ?_ GE199.out) | exact HB.out)⟩

/-- THE ONE PURE STATEMENT of stratalaw11_RedoParses: yours. -/
def stratalaw11_RedoParses.Pure : Prop := ∀ (a0 : ByteArray), a0.size ≤ 140737488351232 → ∃ k, stratalaw11_RedoParses.f k a0 = some true
theorem stratalaw11_RedoParses.walk (P : stratalaw11_RedoParses.Pure) (a0 : ByteArray) (w : World) (w0 : a0.size ≤ 140737488351232) :
    Calls Try.prog 5 #[.string a0] w fun e w' => e = .returned (.bool true) ∧ Below w.heap.size w w' := by
  obtain ⟨k, h⟩ := P a0 w0
  refine (stratalaw11_RedoParses.calls k a0 true w h).mono ?_
  rintro e w' ⟨rfl, hd⟩
  exact ⟨rfl, hd⟩

end Go.Proofs.Ytdepngppnbobdaa.PRedoParses
