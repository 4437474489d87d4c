-- Written by the kit's print.py, called by xprint.py (a helper of this repo); some functions are taken from texts of this seat that were proved by hand.
import Derived.Test.YtbekgkikgcmmaaaDoorHBitM
import Derived.Test.YtbekgkikgcmmaaaDoorPBitx0
import Derived.Test.YtbekgkikgcmmaaaDoorPBitx1
import Derived.Test.YtbekgkikgcmmaaaDoorPBitx2
import Derived.Test.YtbekgkikgcmmaaaDoorPBitx3
import Derived.Test.YtbekgkikgcmmaaaDoorPBitx4
import Derived.Test.YtbekgkikgcmmaaaDoorPBitx8
import Derived.Test.YtbekgkikgcmmaaaDoorPBitx9
import Derived.Test.YtbekgkikgcmmaaaDoorProg
import Derived.Below
import Derived.Deep.Draws
import Derived.Deep.AppendLies
import Derived.Maps.AppendAt
import Derived.OwnWalk
import Derived.Laws.BytesArg
import Derived.Laws.MakeOwn
import Derived.Laws.OwnMore
import Derived.Deep.OwnRows
import Derived.Tactics
import Derived.Lib.ConvBytes
import Derived.Laws.Slices
import Derived.WalkKit
import Derived.KernelRfl
import Derived.RowKit3
import Derived.Deep.LoopGhost
import Derived.Deep.QuietTactic
import Derived.BigQuiet
import Derived.WideLaws
import Derived.Deep.DeepCutAuto
import Derived.Deep.CutBlock
import Derived.Deep.RegionHeld3
import Derived.Laws.Rows
import Derived.Lib.AppendStr
import Derived.ArgAppend
import Derived.Laws.IdiomCopy
import Derived.OrdersHeld
import Derived.Laws.BitsLemmas
import Derived.RowKit
import Derived.Test.YtbekgkikgcmmaaaDoorHStr
import Derived.Test.YtbekgkikgcmmaaaDoorHBase
import Derived.Test.YtbekgkikgcmmaaaDoorHUv
import Derived.Test.YtbekgkikgcmmaaaDoorWWords
import Derived.Test.YtbekgkikgcmmaaaDoorWLast
import Derived.Test.YtbekgkikgcmmaaaDoorWTab
import Derived.Test.YtbekgkikgcmmaaaDoorWFour
import Derived.Test.YtbekgkikgcmmaaaDoorWQPut
import Derived.Test.YtbekgkikgcmmaaaDoorWApart
import Derived.Test.YtbekgkikgcmmaaaDoorWArr
import Derived.Test.YtbekgkikgcmmaaaDoorWZeros
import Derived.Test.YtbekgkikgcmmaaaDoorWFoot
import Derived.Test.YtbekgkikgcmmaaaDoorWKept
import Derived.Test.YtbekgkikgcmmaaaDoorWShare
import Derived.Test.YtbekgkikgcmmaaaDoorWN
import Derived.Test.YtbekgkikgcmmaaaDoorWFootNe
import Derived.Test.YtbekgkikgcmmaaaDoorWAt
import Derived.Test.YtbekgkikgcmmaaaDoorWEqStruct
import Derived.Test.YtbekgkikgcmmaaaDoorWRepsOne
import Derived.Test.YtbekgkikgcmmaaaDoorWInv
import Derived.Test.YtbekgkikgcmmaaaDoorWInvWords
import Derived.Test.YtbekgkikgcmmaaaDoorWGuard
import Derived.Test.YtbekgkikgcmmaaaDoorWNEv
import Derived.Test.YtbekgkikgcmmaaaDoorWMore
import Derived.Test.YtbekgkikgcmmaaaDoorWSized
namespace Go.Proofs.YtbekgkikgcmmaaaDoor.PKys
open Go.RowKit Go.Proofs.YtbekgkikgcmmaaaDoor.HBitE Go.Proofs.YtbekgkikgcmmaaaDoor.HGx Go.Proofs.YtbekgkikgcmmaaaDoor.PBit Go.Proofs.YtbekgkikgcmmaaaDoor.HBase Go.Proofs.YtbekgkikgcmmaaaDoor.HUv Go.Proofs.YtbekgkikgcmmaaaDoorW.PrintWords Go.Proofs.YtbekgkikgcmmaaaDoorW.PrintLast Go.Proofs.YtbekgkikgcmmaaaDoorW.PrintMore
attribute [local go_sem] max2_int min2_int max_two min_two max_three min_three max_four min_four   -- for this text's walks alone
set_option linter.unusedVariables false
set_option linter.unusedSimpArgs false

/-! ### stratalaw01_BitsKeys: function 3 -/
def stratalaw01_BitsKeys.j0 : Nat → List (S33) → Int → List (S33) → Bool → Option (Bool)
  | 0, _, _, _, _ => none
  | k + 1, x0, x3, x4, x33 => if x33 = true then (some false) else (if 0 ≤ x3 then (if x3 ≤ (x4.length : Int) then ((bits_Row.f k (x4.take (x3 : Int).toNat)).bind fun bt252 => ((strataref01_Row.f k x0).bind fun bt254 => (if bt252.1.toList = bt254.1.toList then ((stratalaw01_num.f bt252.2).bind fun t256 => (if t256 = bt254.2 then ((stratalaw01_same.f k (x4.take (x3 : Int).toNat) x0).bind fun t261 => (if t261 = true then (if x3 < (x4.length : Int) then (if ((rd_T33 x4 x3).f0) = 77 then (if ((rd_T33 x4 x3).f1) = 77 then (some (((rd_T33 x4 x3).f2).toList == ([109, 97, 114, 107] : List UInt8))) else (some false)) else (some false)) else (none)) else (some false))) else (some false))) else (some false)))) else (none)) else (none))
def stratalaw01_BitsKeys.f (k : Nat) (l0 : List (S33)) : Option (Bool) := (stratalaw01_room.f k l0).bind fun t236 => (if 0 ≤ (l0.length : Int) then (if (l0.length : Int) ≤ (t236.length : Int) then ((bits_Key.f k (t236.take ((l0.length : Int) : Int).toNat)).bind fun bt243 => ((strataref01_Key.f k l0).bind fun bt245 => (if bt243.1.toList = bt245.1.toList then ((stratalaw01_num.f bt243.2).bind fun t247 => (stratalaw01_BitsKeys.j0 k l0 (l0.length : Int) t236 (t247 != bt245.2))) else (stratalaw01_BitsKeys.j0 k l0 (l0.length : Int) t236 true)))) else (none)) else (none))
theorem stratalaw01_BitsKeys.mono_l : ∀ k, (∀ y0 y1 y2 y3, LeO (stratalaw01_BitsKeys.j0 k y0 y1 y2 y3) (stratalaw01_BitsKeys.j0 (k + 1) y0 y1 y2 y3))
  | 0 => fun _ _ _ _ r h => by simp [stratalaw01_BitsKeys.j0] at h
  | k + 1 => by
    have ih0 := stratalaw01_BitsKeys.mono_l k
    · intro y0 y1 y2 y3
      unfold stratalaw01_BitsKeys.j0
      repeat' first
      | (with_reducible exact ih0 _ _ _ _)
      | (with_reducible exact bits_Key.mono _ _)
      | (with_reducible exact bits_Row.mono _ _)
      | (with_reducible exact stratalaw01_room.mono _ _)
      | (with_reducible exact stratalaw01_same.mono _ _ _)
      | (with_reducible exact strataref01_Key.mono _ _)
      | (with_reducible exact strataref01_Row.mono _ _)
      | (with_reducible exact LeO.refl _)
      | (with_reducible exact LeO.none _)
      | (with_reducible refine LeO.ite ?_ ?_)
      | (with_reducible refine LeO.bind ?_ (fun _ => ?_))
      | exact ih0 _ _ _ _
      | exact bits_Key.mono _ _
      | exact bits_Row.mono _ _
      | exact stratalaw01_room.mono _ _
      | exact stratalaw01_same.mono _ _ _
      | exact strataref01_Key.mono _ _
      | exact strataref01_Row.mono _ _
      | exact LeO.none _
      | refine LeO.ite ?_ ?_
      | refine LeO.bind ?_ (fun _ => ?_)
theorem stratalaw01_BitsKeys.mono : ∀ a0 k, LeO (stratalaw01_BitsKeys.f k a0) (stratalaw01_BitsKeys.f (k + 1) a0) := by
  intro a0 k
  have ih0 := stratalaw01_BitsKeys.mono_l k
  unfold stratalaw01_BitsKeys.f
  repeat' first
      | (with_reducible exact ih0 _ _ _ _)
      | (with_reducible exact bits_Key.mono _ _)
      | (with_reducible exact bits_Row.mono _ _)
      | (with_reducible exact stratalaw01_room.mono _ _)
      | (with_reducible exact stratalaw01_same.mono _ _ _)
      | (with_reducible exact strataref01_Key.mono _ _)
      | (with_reducible exact strataref01_Row.mono _ _)
      | (with_reducible exact LeO.refl _)
      | (with_reducible exact LeO.none _)
      | (with_reducible refine LeO.ite ?_ ?_)
      | (with_reducible refine LeO.bind ?_ (fun _ => ?_))
      | exact ih0 _ _ _ _
      | exact bits_Key.mono _ _
      | exact bits_Row.mono _ _
      | exact stratalaw01_room.mono _ _
      | exact stratalaw01_same.mono _ _ _
      | exact strataref01_Key.mono _ _
      | exact strataref01_Row.mono _ _
      | exact LeO.none _
      | refine LeO.ite ?_ ?_
      | refine LeO.bind ?_ (fun _ => ?_)
set_option maxHeartbeats 8000000 in
set_option maxRecDepth 100000 in
theorem stratalaw01_BitsKeys.calls (k : Nat) (A0 : Option Addr) (c0 : Nat) (l0 : List (S33)) (r : Bool) (w : World) (hr0 : Kd.C k33 w A0 l0.length l0) (hc0 : l0.length ≤ c0) (h : stratalaw01_BitsKeys.f k l0 = some r) (hT : Tab w) :
    Calls Tryd.prog 3 #[.slice A0 l0.length c0] w fun e w' => e = .returned (.bool r) ∧ Below w.heap.size w w' := by
  have HR0 := Aside0.mk hr0
  have HC0 := Aside0.mk hc0
  clear hr0 hc0
  have HB := Aside0.mk (Below.refl w.heap.size w)
  have H : ((stratalaw01_room.f k l0).bind fun t236 => (if 0 ≤ (l0.length : Int) then (if (l0.length : Int) ≤ (t236.length : Int) then ((bits_Key.f k (t236.take ((l0.length : Int) : Int).toNat)).bind fun bt243 => ((strataref01_Key.f k l0).bind fun bt245 => (if bt243.1.toList = bt245.1.toList then ((stratalaw01_num.f bt243.2).bind fun t247 => (stratalaw01_BitsKeys.j0 k l0 (l0.length : Int) t236 (t247 != bt245.2))) else (stratalaw01_BitsKeys.j0 k l0 (l0.length : Int) t236 true)))) else (none)) else (none))) = some r := h
  clear h
  replace H := Option.bind_eq_some_iff.mp H
  obtain ⟨t236, A20, H⟩ := H
  replace H : (if 0 ≤ (l0.length : Int) then (if (l0.length : Int) ≤ (t236.length : Int) then ((bits_Key.f k (t236.take ((l0.length : Int) : Int).toNat)).bind fun bt243 => ((strataref01_Key.f k l0).bind fun bt245 => (if bt243.1.toList = bt245.1.toList then ((stratalaw01_num.f bt243.2).bind fun t247 => (stratalaw01_BitsKeys.j0 k l0 (l0.length : Int) t236 (t247 != bt245.2))) else (stratalaw01_BitsKeys.j0 k l0 (l0.length : Int) t236 true)))) else (none)) else (none)) = some r := H
  have A2 := Aside0.mk A20
  clear A20
  by_cases c3 : 0 ≤ (l0.length : Int)
  · rw [if_pos c3] at H
    have c3b0 := eq_true c3
    have c3b1 : decide (0 ≤ (l0.length : Int)) = true := decide_eq_true c3
    clear c3
    by_cases c4 : (l0.length : Int) ≤ (t236.length : Int)
    · rw [if_pos c4] at H
      have c4b0 := eq_true c4
      have c4b1 : decide ((l0.length : Int) ≤ (t236.length : Int)) = true := decide_eq_true c4
      clear c4
      obtain ⟨y239, hy239⟩ : ∃ y_ : List (S33), y_ = (t236.take ((l0.length : Int) : Int).toNat) := ⟨_, rfl⟩
      replace H : ((bits_Key.f k y239).bind fun bt243 => ((strataref01_Key.f k l0).bind fun bt245 => (if bt243.1.toList = bt245.1.toList then ((stratalaw01_num.f bt243.2).bind fun t247 => (stratalaw01_BitsKeys.j0 k l0 (l0.length : Int) t236 (t247 != bt245.2))) else (stratalaw01_BitsKeys.j0 k l0 (l0.length : Int) t236 true)))) = some r := by first | (rw [hy239]; with_reducible exact H) | (have H2_ := (Option.bind_some _ _).symm.trans H; rw [hy239]; with_reducible exact H2_) | (have H2_ := (Option.bind_some _ _).symm.trans H; with_reducible exact H2_) | with_reducible exact H | (rw [hy239]; exact H) | exact H
      have Ny239 := Aside0.mk hy239
      clear hy239
      replace H := Option.bind_eq_some_iff.mp H
      obtain ⟨⟨t243, t244⟩, A50, H⟩ := H
      replace H : ((strataref01_Key.f k l0).bind fun bt245 => (if t243.toList = bt245.1.toList then ((stratalaw01_num.f t244).bind fun t247 => (stratalaw01_BitsKeys.j0 k l0 (l0.length : Int) t236 (t247 != bt245.2))) else (stratalaw01_BitsKeys.j0 k l0 (l0.length : Int) t236 true))) = some r := H
      have A5 := Aside0.mk A50
      clear A50
      replace H := Option.bind_eq_some_iff.mp H
      obtain ⟨⟨t245, t246⟩, A60, H⟩ := H
      replace H : (if t243.toList = t245.toList then ((stratalaw01_num.f t244).bind fun t247 => (stratalaw01_BitsKeys.j0 k l0 (l0.length : Int) t236 (t247 != t246))) else (stratalaw01_BitsKeys.j0 k l0 (l0.length : Int) t236 true)) = some r := H
      have A6 := Aside0.mk A60
      clear A60
      have HC7 := Aside0.mk H
      clear H
      go_enter Tryd.func3, Tryd.ntmps3
      go_upto_region 5 with (first | ((with_reducible refine gate_callee (f := 8) rfl ?_); refine goesL_ (some 12) rfl rfl Tryd.func8 (by kernel_rfl) rfl #[.slice A0 l0.length c0] rfl (by (try simp only [List.map_toArray, List.map_cons, List.map_nil]); first | done | rfl | (simp only [List.length_drop, List.length_take]; rfl)) ?_; (with_reducible refine (stratalaw01_room.calls k _ _ l0 t236 _ ?side1 ?side2 A2.out).mono ?_); (case side1 => repeat (first | exact HR0.out | (with_reducible refine Kd.C_alloc ?_ _) | (with_reducible refine Kd.C_drewN ?_ _) | (with_reducible refine Kd.C_drew ?_))); (case side2 => exact HC0.out); rintro e w8 ⟨v237, rfl, ho0, hb⟩; refine ⟨_, rfl, ?_⟩; have n0_ := Aside0.mk (Kd.R_lower ho0 (below_size (by repeat (first | (with_reducible first | exact HB.out | apply below_alloc | apply pw_below_drewN | apply below_drew1) | exact HB.out)))); have n1_ := Aside0.mk (below_step (by repeat (first | (with_reducible first | exact HB.out | apply below_alloc | apply pw_below_drewN | apply below_drew1) | exact HB.out)) hb); clear HB; have HO238 := n0_; have HB := n1_; clear n0_ n1_; (try clear hb); (try clear hb2); (try clear hk); (try clear hi); (try clear ho0); obtain ⟨Ao10, co10, eo10⟩ := Kd.R_slice HO238.out; subst eo10; have q9 : ((l0.length : Int) : Int) ≤ ((t236.length : Int) : Int) := of_decide_eq_true (by first | (with_reducible assumption) | assumption); obtain ⟨i09, hi09, _, hsz9, _⟩ := info_parts info33; have hroom9 : t236.length ≤ co10 := (Kd.R_reads' HO238.out).2.1; have hC9 : Kd.C k33 _ Ao10 t236.length t236 := (Kd.R_reads' HO238.out).2.2; have hcut9 := cut_to (P := Tryd.prog) 22 33 .i64 Tryd.underlying22 hi09 Ao10 t236.length co10 (l0.length : Int) (of_decide_eq_true (by first | (with_reducible assumption) | assumption)) q9 hroom9; have hr9 := Kd.C_take (m := ((l0.length : Int) : Int).toNat) hC9 (by omega); have hy9 : y239.length = ((l0.length : Int) : Int).toNat := (by rw [Ny239.out, List.length_take]; omega); rw [← Ny239.out] at hr9; rw [← hy9] at hcut9; have HR242 := Aside0.mk hr9; have HC242 := Aside0.mk (show y239.length ≤ co10 from by omega); clear hr9 hC9 hroom9 hi09 hsz9; have KY9 := Aside0.mk hy9; clear hy9; have KL9 := Aside0.mk (show ((l0.length : Int) : Int).toNat ≤ t236.length from by omega); replace q9 := eq_true q9) | ((with_reducible refine gate_callee (f := 9) rfl ?_); refine goesL_ (some 17) rfl rfl Tryd.func9 (by kernel_rfl) rfl #[.slice Ao10 y239.length co10] rfl (by (try simp only [List.map_toArray, List.map_cons, List.map_nil]); first | done | rfl | (simp only [List.length_drop, List.length_take]; rfl)) ?_; (with_reducible refine (bits_Key.calls k _ _ y239 t243 t244 _ ?side1 ?side2 A5.out (by first | exact hT | exact hT.drewN _ | exact Tab.below hT (by repeat (first | (with_reducible first | exact HB.out | apply below_alloc | apply pw_below_drewN | apply below_drew1) | exact HB.out)))).mono ?_); (case side1 => repeat (first | exact (by repeat (first | (with_reducible exact HR242.out) | (with_reducible refine Kd.C_alloc ?_ _) | (with_reducible refine Kd.C_drewN ?_ _) | (with_reducible refine Kd.C_drew ?_) | exact HR242.out)) | (with_reducible refine Kd.C_alloc ?_ _) | (with_reducible refine Kd.C_drewN ?_ _) | (with_reducible refine Kd.C_drew ?_))); (case side2 => exact HC242.out); rintro e w11 ⟨rfl, hb⟩; refine ⟨_, rfl, ?_⟩; have n0_ := Aside0.mk (Kd.R_below (by (with_reducible repeat (first | apply Kd.R_alloc | apply Kd.R_drewN | apply Kd.R_drew)); exact HO238.out) hb); have n1_ := Aside0.mk (Kd.C_below (by repeat (first | (with_reducible exact HR242.out) | (with_reducible refine Kd.C_alloc ?_ _) | (with_reducible refine Kd.C_drewN ?_ _) | (with_reducible refine Kd.C_drew ?_) | exact HR242.out)) hb); have n2_ := Aside0.mk (below_step (by repeat (first | (with_reducible first | exact HB.out | apply below_alloc | apply pw_below_drewN | apply below_drew1) | exact HB.out)) hb); clear HO238; clear HR242; clear HB; have HO238 := n0_; have HR242 := n1_; have HB := n2_; clear n0_ n1_ n2_; (try clear hb); (try clear hb2); (try clear hk); (try clear hi)) | ((with_reducible refine gate_callee (f := 10) rfl ?_); refine goesL_ (some 22) rfl rfl Tryd.func10 (by kernel_rfl) rfl #[.slice A0 l0.length c0] rfl (by (try simp only [List.map_toArray, List.map_cons, List.map_nil]); first | done | rfl | (simp only [List.length_drop, List.length_take]; rfl)) ?_; (with_reducible refine (strataref01_Key.calls k _ _ l0 t245 t246 _ ?side1 ?side2 A6.out).mono ?_); (case side1 => repeat (first | exact (Kd.C_below HR0.out HB.out) | (with_reducible refine Kd.C_alloc ?_ _) | (with_reducible refine Kd.C_drewN ?_ _) | (with_reducible refine Kd.C_drew ?_))); (case side2 => exact HC0.out); rintro e w12 ⟨rfl, hb⟩; refine ⟨_, rfl, ?_⟩; have n0_ := Aside0.mk (Kd.R_below (by (with_reducible repeat (first | apply Kd.R_alloc | apply Kd.R_drewN | apply Kd.R_drew)); exact HO238.out) hb); have n1_ := Aside0.mk (Kd.C_below (by repeat (first | (with_reducible exact HR242.out) | (with_reducible refine Kd.C_alloc ?_ _) | (with_reducible refine Kd.C_drewN ?_ _) | (with_reducible refine Kd.C_drew ?_) | exact HR242.out)) hb); have n2_ := Aside0.mk (below_step (by repeat (first | (with_reducible first | exact HB.out | apply below_alloc | apply pw_below_drewN | apply below_drew1) | exact HB.out)) hb); clear HO238; clear HR242; clear HB; have HO238 := n0_; have HR242 := n1_; have HB := n2_; clear n0_ n1_ n2_; (try clear hb); (try clear hb2); (try clear hk); (try clear hi)))
      (try simp only [Act.put, List.setIfInBounds_toArray, List.set_cons_zero, List.set_cons_succ])
      go_cut [33] (fun v33 wc => ∃ (kq : Nat) (x33_6 : Bool), v33 = .bool x33_6 ∧ Aside0 (stratalaw01_BitsKeys.j0 kq l0 (l0.length : Int) t236 x33_6 = some r) ∧ Aside0 (kq ≤ k) ∧ Aside0 (Kd.R k33 33 wc w.heap.size (fun _ => True) (.slice Ao10 t236.length co10) t236) ∧ Aside0 (Kd.C k33 wc Ao10 y239.length y239) ∧ Aside0 (Below w.heap.size w wc))
      case first =>
        have H := HC7.out
        clear HC7
        by_cases c13 : t243.toList = t245.toList
        · rw [if_pos c13] at H
          have c13b0 : (t243.toList == t245.toList) = true := beq_iff_eq.mpr c13
          have c13b1 : (t243.toList != t245.toList) = false := bne_eq_false_iff_eq.mpr c13
          clear c13
          (first | rw [c13b0] | (simp only [i64_w, i32_w]; rw [c13b0]) | skip)
          replace H := Option.bind_eq_some_iff.mp H
          obtain ⟨t247, A140, H⟩ := H
          replace H : (stratalaw01_BitsKeys.j0 k l0 (l0.length : Int) t236 (t247 != t246)) = some r := H
          have A14 := Aside0.mk A140
          clear A140
          have H' := Aside0.mk H
          clear H
          go_wp2_with (first | (go_at_call 11; (with_reducible refine (stratalaw01_num.calls t244 t247 _ A14.out).mono ?_); rintro e w' ⟨rfl, ⟨nd, rfl⟩⟩))
          go_meet
          case rel => exact ⟨_, ((t247 != t246)), (by first | rfl | (simp; done) | (simp [*]; done)), H', ⟨by first | omega | exact Nat.le_refl _⟩, ⟨by (with_reducible repeat (first | apply Kd.R_alloc | apply Kd.R_drewN | apply Kd.R_drew)); exact HO238.out⟩, ⟨by repeat (first | (with_reducible exact HR242.out) | (with_reducible refine Kd.C_alloc ?_ _) | (with_reducible refine Kd.C_drewN ?_ _) | (with_reducible refine Kd.C_drew ?_) | exact HR242.out)⟩, ⟨by repeat (first | (with_reducible first | exact HB.out | apply below_alloc | apply pw_below_drewN | apply below_drew1) | exact HB.out)⟩⟩
        · rw [if_neg c13] at H
          have c13b0 : (t243.toList == t245.toList) = false := beq_eq_false_iff_ne.mpr c13
          have c13b1 : (t243.toList != t245.toList) = true := bne_iff_ne.mpr c13
          (first | rw [c13b0] | (simp only [i64_w, i32_w]; rw [c13b0]) | skip)
          have H' := Aside0.mk H
          clear H
          go_wp2
          go_meet
          case rel => exact ⟨_, (true), (by first | rfl | (simp; done) | (simp [*]; done)), H', ⟨by first | omega | exact Nat.le_refl _⟩, ⟨by (with_reducible repeat (first | apply Kd.R_alloc | apply Kd.R_drewN | apply Kd.R_drew)); exact HO238.out⟩, ⟨by repeat (first | (with_reducible exact HR242.out) | (with_reducible refine Kd.C_alloc ?_ _) | (with_reducible refine Kd.C_drewN ?_ _) | (with_reducible refine Kd.C_drew ?_) | exact HR242.out)⟩, ⟨by repeat (first | (with_reducible first | exact HB.out | apply below_alloc | apply pw_below_drewN | apply below_drew1) | exact HB.out)⟩⟩
      case rest =>
        clear HC7
        try clear c1
        try clear p2
        try clear c3
        try clear c3b0
        try clear c3b1
        try clear c4
        try clear c4b0
        try clear c4b1
        try clear c8
        try clear c9
        try clear q9
        try clear c10
        try clear c13
        try clear c13b0
        try clear c13b1
        try clear q9
        obtain ⟨kq, x33_6, rfl, HA, HJ6, HO_4, HR242, HB⟩ := hcut
        cases kq with
        | zero => exact absurd HA.out (by simp [stratalaw01_BitsKeys.j0])
        | succ kj6 =>
          have H := HA.out
          clear HA
          simp only [stratalaw01_BitsKeys.j0] at H
          by_cases c15 : x33_6 = true
          · subst c15
            have H1 : (some false) = some r := by rw [if_pos rfl] at H; exact H
            clear H
            have H := H1
            clear H1
            obtain rfl := Option.some.inj H
            go_wp2
            go_ret
            exact ⟨by first | rfl | (simp [errW_none, errW_some] <;> rfl) | (simp [*, errW_none, errW_some] <;> rfl), by repeat (first | (with_reducible first | exact HB.out | apply below_alloc | apply pw_below_drewN | apply below_drew1) | exact HB.out)⟩
          · replace c15 := Bool.eq_false_iff.mpr c15
            subst c15
            have H1 : (if 0 ≤ (l0.length : Int) then (if (l0.length : Int) ≤ (t236.length : Int) then ((bits_Row.f kj6 (t236.take ((l0.length : Int) : Int).toNat)).bind fun bt252 => ((strataref01_Row.f kj6 l0).bind fun bt254 => (if bt252.1.toList = bt254.1.toList then ((stratalaw01_num.f bt252.2).bind fun t256 => (if t256 = bt254.2 then ((stratalaw01_same.f kj6 (t236.take ((l0.length : Int) : Int).toNat) l0).bind fun t261 => (if t261 = true then (if (l0.length : Int) < (t236.length : Int) then (if ((rd_T33 t236 (l0.length : Int)).f0) = 77 then (if ((rd_T33 t236 (l0.length : Int)).f1) = 77 then (some (((rd_T33 t236 (l0.length : Int)).f2).toList == ([109, 97, 114, 107] : List UInt8))) else (some false)) else (some false)) else (none)) else (some false))) else (some false))) else (some false)))) else (none)) else (none)) = some r := by rw [if_neg (show ¬ (false = true) by decide)] at H; exact H
            clear H
            have H := H1
            clear H1
            by_cases c16 : 0 ≤ (l0.length : Int)
            · rw [if_pos c16] at H
              have c16b0 := eq_true c16
              have c16b1 : decide (0 ≤ (l0.length : Int)) = true := decide_eq_true c16
              clear c16
              by_cases c17 : (l0.length : Int) ≤ (t236.length : Int)
              · rw [if_pos c17] at H
                have c17b0 := eq_true c17
                have c17b1 : decide ((l0.length : Int) ≤ (t236.length : Int)) = true := decide_eq_true c17
                clear c17
                obtain ⟨y248, hy248⟩ : ∃ y_ : List (S33), y_ = (t236.take ((l0.length : Int) : Int).toNat) := ⟨_, rfl⟩
                replace H : ((bits_Row.f kj6 y248).bind fun bt252 => ((strataref01_Row.f kj6 l0).bind fun bt254 => (if bt252.1.toList = bt254.1.toList then ((stratalaw01_num.f bt252.2).bind fun t256 => (if t256 = bt254.2 then ((stratalaw01_same.f kj6 (t236.take ((l0.length : Int) : Int).toNat) l0).bind fun t261 => (if t261 = true then (if (l0.length : Int) < (t236.length : Int) then (if ((rd_T33 t236 (l0.length : Int)).f0) = 77 then (if ((rd_T33 t236 (l0.length : Int)).f1) = 77 then (some (((rd_T33 t236 (l0.length : Int)).f2).toList == ([109, 97, 114, 107] : List UInt8))) else (some false)) else (some false)) else (none)) else (some false))) else (some false))) else (some false)))) = some r := by first | (rw [hy248]; with_reducible exact H) | (have H2_ := (Option.bind_some _ _).symm.trans H; rw [hy248]; with_reducible exact H2_) | (have H2_ := (Option.bind_some _ _).symm.trans H; with_reducible exact H2_) | with_reducible exact H | (rw [hy248]; exact H) | exact H
                have Ny248 := Aside0.mk hy248
                clear hy248
                replace H := Option.bind_eq_some_iff.mp H
                obtain ⟨⟨t252, t253⟩, A180, H⟩ := H
                replace H : ((strataref01_Row.f kj6 l0).bind fun bt254 => (if t252.toList = bt254.1.toList then ((stratalaw01_num.f t253).bind fun t256 => (if t256 = bt254.2 then ((stratalaw01_same.f kj6 (t236.take ((l0.length : Int) : Int).toNat) l0).bind fun t261 => (if t261 = true then (if (l0.length : Int) < (t236.length : Int) then (if ((rd_T33 t236 (l0.length : Int)).f0) = 77 then (if ((rd_T33 t236 (l0.length : Int)).f1) = 77 then (some (((rd_T33 t236 (l0.length : Int)).f2).toList == ([109, 97, 114, 107] : List UInt8))) else (some false)) else (some false)) else (none)) else (some false))) else (some false))) else (some false))) = some r := H
                have A18 := Aside0.mk A180
                clear A180
                replace H := Option.bind_eq_some_iff.mp H
                obtain ⟨⟨t254, t255⟩, A190, H⟩ := H
                replace H : (if t252.toList = t254.toList then ((stratalaw01_num.f t253).bind fun t256 => (if t256 = t255 then ((stratalaw01_same.f kj6 (t236.take ((l0.length : Int) : Int).toNat) l0).bind fun t261 => (if t261 = true then (if (l0.length : Int) < (t236.length : Int) then (if ((rd_T33 t236 (l0.length : Int)).f0) = 77 then (if ((rd_T33 t236 (l0.length : Int)).f1) = 77 then (some (((rd_T33 t236 (l0.length : Int)).f2).toList == ([109, 97, 114, 107] : List UInt8))) else (some false)) else (some false)) else (none)) else (some false))) else (some false))) else (some false)) = some r := H
                have A19 := Aside0.mk A190
                clear A190
                by_cases c20 : t252.toList = t254.toList
                · rw [if_pos c20] at H
                  have c20b0 : (t252.toList == t254.toList) = true := beq_iff_eq.mpr c20
                  have c20b1 : (t252.toList != t254.toList) = false := bne_eq_false_iff_eq.mpr c20
                  clear c20
                  replace H := Option.bind_eq_some_iff.mp H
                  obtain ⟨t256, A210, H⟩ := H
                  replace H : (if t256 = t255 then ((stratalaw01_same.f kj6 (t236.take ((l0.length : Int) : Int).toNat) l0).bind fun t261 => (if t261 = true then (if (l0.length : Int) < (t236.length : Int) then (if ((rd_T33 t236 (l0.length : Int)).f0) = 77 then (if ((rd_T33 t236 (l0.length : Int)).f1) = 77 then (some (((rd_T33 t236 (l0.length : Int)).f2).toList == ([109, 97, 114, 107] : List UInt8))) else (some false)) else (some false)) else (none)) else (some false))) else (some false)) = some r := H
                  have A21 := Aside0.mk A210
                  clear A210
                  by_cases c22 : t256 = t255
                  · rw [if_pos c22] at H
                    have c22b0 : (t256 == t255) = true := beq_iff_eq.mpr c22
                    have c22b1 : (t256 != t255) = false := bne_eq_false_iff_eq.mpr c22
                    clear c22
                    have c23b0 := eq_true (of_decide_eq_true (by first | (with_reducible assumption) | assumption) : 0 ≤ (l0.length : Int))
                    have c24b0 := eq_true (of_decide_eq_true (by first | (with_reducible assumption) | assumption) : (l0.length : Int) ≤ (t236.length : Int))
                    obtain ⟨y257, hy257⟩ : ∃ y_ : List (S33), y_ = (t236.take ((l0.length : Int) : Int).toNat) := ⟨_, rfl⟩
                    replace H : ((stratalaw01_same.f kj6 y257 l0).bind fun t261 => (if t261 = true then (if (l0.length : Int) < (t236.length : Int) then (if ((rd_T33 t236 (l0.length : Int)).f0) = 77 then (if ((rd_T33 t236 (l0.length : Int)).f1) = 77 then (some (((rd_T33 t236 (l0.length : Int)).f2).toList == ([109, 97, 114, 107] : List UInt8))) else (some false)) else (some false)) else (none)) else (some false))) = some r := by first | (rw [hy257]; with_reducible exact H) | (have H2_ := (Option.bind_some _ _).symm.trans H; rw [hy257]; with_reducible exact H2_) | (have H2_ := (Option.bind_some _ _).symm.trans H; with_reducible exact H2_) | with_reducible exact H | (rw [hy257]; exact H) | exact H
                    have Ny257 := Aside0.mk hy257
                    clear hy257
                    replace H := Option.bind_eq_some_iff.mp H
                    obtain ⟨t261, A250, H⟩ := H
                    replace H : (if t261 = true then (if (l0.length : Int) < (t236.length : Int) then (if ((rd_T33 t236 (l0.length : Int)).f0) = 77 then (if ((rd_T33 t236 (l0.length : Int)).f1) = 77 then (some (((rd_T33 t236 (l0.length : Int)).f2).toList == ([109, 97, 114, 107] : List UInt8))) else (some false)) else (some false)) else (none)) else (some false)) = some r := H
                    have A25 := Aside0.mk A250
                    clear A250
                    by_cases c26 : t261 = true
                    · subst c26
                      have H1 : (if (l0.length : Int) < (t236.length : Int) then (if ((rd_T33 t236 (l0.length : Int)).f0) = 77 then (if ((rd_T33 t236 (l0.length : Int)).f1) = 77 then (some (((rd_T33 t236 (l0.length : Int)).f2).toList == ([109, 97, 114, 107] : List UInt8))) else (some false)) else (some false)) else (none)) = some r := by rw [if_pos rfl] at H; exact H
                      clear H
                      have H := H1
                      clear H1
                      by_cases c27 : (l0.length : Int) < (t236.length : Int)
                      · rw [if_pos c27] at H
                        have c27b0 : decide ((l0.length : Int) < (t236.length : Int)) = true := decide_eq_true c27
                        have c27b1 : decide (l0.length < t236.length) = true := decide_eq_true (Int.ofNat_lt.mp c27)
                        clear c27
                        by_cases c28 : ((rd_T33 t236 (l0.length : Int)).f0) = 77
                        · rw [if_pos c28] at H
                          have c28b0 : (((rd_T33 t236 (l0.length : Int)).f0) == 77) = true := beq_iff_eq.mpr c28
                          have c28b1 : (((rd_T33 t236 (l0.length : Int)).f0) != 77) = false := bne_eq_false_iff_eq.mpr c28
                          clear c28
                          by_cases c29 : ((rd_T33 t236 (l0.length : Int)).f1) = 77
                          · rw [if_pos c29] at H
                            have c29b0 : (((rd_T33 t236 (l0.length : Int)).f1) == 77) = true := beq_iff_eq.mpr c29
                            have c29b1 : (((rd_T33 t236 (l0.length : Int)).f1) != 77) = false := bne_eq_false_iff_eq.mpr c29
                            clear c29
                            obtain rfl := Option.some.inj H
                            have q30 : ((l0.length : Int) : Int) ≤ ((t236.length : Int) : Int) := of_decide_eq_true (by first | (with_reducible assumption) | assumption)
                            obtain ⟨i030, hi030, _, hsz30, _⟩ := info_parts info33
                            have hroom30 : t236.length ≤ co10 := (Kd.R_reads' HO_4.out).2.1
                            have hC30 : Kd.C k33 _ Ao10 t236.length t236 := (Kd.R_reads' HO_4.out).2.2
                            try clear hcut9
                            have hcut30 := cut_to (P := Tryd.prog) 22 33 .i64 Tryd.underlying22 hi030 Ao10 t236.length co10 (l0.length : Int) (of_decide_eq_true (by first | (with_reducible assumption) | assumption)) q30 hroom30
                            have hr30 := Kd.C_take (m := ((l0.length : Int) : Int).toNat) hC30 (by omega)
                            have hy30 : y248.length = ((l0.length : Int) : Int).toNat := (by rw [Ny248.out, List.length_take]; omega)
                            rw [← Ny248.out] at hr30
                            rw [← hy30] at hcut30
                            have HR251 := Aside0.mk hr30
                            have HC251 := Aside0.mk (show y248.length ≤ co10 from by omega)
                            clear hr30 hC30 hroom30 hi030 hsz30
                            have KY30 := Aside0.mk hy30
                            clear hy30
                            have KL30 := Aside0.mk (show ((l0.length : Int) : Int).toNat ≤ t236.length from by omega)
                            replace q30 := eq_true q30
                            go_wp2_with (first | ((with_reducible refine gate_callee (f := 12) rfl ?_); refine goesL_ (some 38) rfl rfl Tryd.func12 (by kernel_rfl) rfl #[.slice Ao10 y248.length co10] rfl (by (try simp only [List.map_toArray, List.map_cons, List.map_nil]); first | done | rfl | (simp only [List.length_drop, List.length_take]; rfl)) ?_; (with_reducible refine (bits_Row.calls kj6 _ _ y248 t252 t253 _ ?side1 ?side2 A18.out (by first | exact hT | exact hT.drewN _ | exact Tab.below hT (by repeat (first | (with_reducible first | exact HB.out | apply below_alloc | apply pw_below_drewN | apply below_drew1) | exact HB.out)))).mono ?_); (case side1 => repeat (first | exact (by repeat (first | (with_reducible exact HR251.out) | (with_reducible refine Kd.C_alloc ?_ _) | (with_reducible refine Kd.C_drewN ?_ _) | (with_reducible refine Kd.C_drew ?_) | exact HR251.out)) | (with_reducible refine Kd.C_alloc ?_ _) | (with_reducible refine Kd.C_drewN ?_ _) | (with_reducible refine Kd.C_drew ?_))); (case side2 => exact HC251.out); rintro e w31 ⟨rfl, hb⟩; refine ⟨_, rfl, ?_⟩; have n0_ := Aside0.mk (Kd.R_below (by (with_reducible repeat (first | apply Kd.R_alloc | apply Kd.R_drewN | apply Kd.R_drew)); exact HO_4.out) hb); have n1_ := Aside0.mk (Kd.C_below (by repeat (first | (with_reducible exact HR242.out) | (with_reducible refine Kd.C_alloc ?_ _) | (with_reducible refine Kd.C_drewN ?_ _) | (with_reducible refine Kd.C_drew ?_) | exact HR242.out)) hb); have n2_ := Aside0.mk (Kd.C_below (by repeat (first | (with_reducible exact HR251.out) | (with_reducible refine Kd.C_alloc ?_ _) | (with_reducible refine Kd.C_drewN ?_ _) | (with_reducible refine Kd.C_drew ?_) | exact HR251.out)) hb); have n3_ := Aside0.mk (below_step (by repeat (first | (with_reducible first | exact HB.out | apply below_alloc | apply pw_below_drewN | apply below_drew1) | exact HB.out)) hb); clear HO_4; clear HR242; clear HR251; clear HB; have HO_4 := n0_; have HR242 := n1_; have HR251 := n2_; have HB := n3_; clear n0_ n1_ n2_ n3_; (try clear hb); (try clear hb2); (try clear hk); (try clear hi)) | ((with_reducible refine gate_callee (f := 13) rfl ?_); refine goesL_ (some 43) rfl rfl Tryd.func13 (by kernel_rfl) rfl #[.slice A0 l0.length c0] rfl (by (try simp only [List.map_toArray, List.map_cons, List.map_nil]); first | done | rfl | (simp only [List.length_drop, List.length_take]; rfl)) ?_; (with_reducible refine (strataref01_Row.calls kj6 _ _ l0 t254 t255 _ ?side1 ?side2 A19.out).mono ?_); (case side1 => repeat (first | exact (Kd.C_below HR0.out HB.out) | (with_reducible refine Kd.C_alloc ?_ _) | (with_reducible refine Kd.C_drewN ?_ _) | (with_reducible refine Kd.C_drew ?_))); (case side2 => exact HC0.out); rintro e w32 ⟨rfl, hb⟩; refine ⟨_, rfl, ?_⟩; have n0_ := Aside0.mk (Kd.R_below (by (with_reducible repeat (first | apply Kd.R_alloc | apply Kd.R_drewN | apply Kd.R_drew)); exact HO_4.out) hb); have n1_ := Aside0.mk (Kd.C_below (by repeat (first | (with_reducible exact HR242.out) | (with_reducible refine Kd.C_alloc ?_ _) | (with_reducible refine Kd.C_drewN ?_ _) | (with_reducible refine Kd.C_drew ?_) | exact HR242.out)) hb); have n2_ := Aside0.mk (Kd.C_below (by repeat (first | (with_reducible exact HR251.out) | (with_reducible refine Kd.C_alloc ?_ _) | (with_reducible refine Kd.C_drewN ?_ _) | (with_reducible refine Kd.C_drew ?_) | exact HR251.out)) hb); have n3_ := Aside0.mk (below_step (by repeat (first | (with_reducible first | exact HB.out | apply below_alloc | apply pw_below_drewN | apply below_drew1) | exact HB.out)) hb); clear HO_4; clear HR242; clear HR251; clear HB; have HO_4 := n0_; have HR242 := n1_; have HR251 := n2_; have HB := n3_; clear n0_ n1_ n2_ n3_; (try clear hb); (try clear hb2); (try clear hk); (try clear hi)) | (go_at_call 11; (with_reducible refine (stratalaw01_num.calls t253 t256 _ A21.out).mono ?_); rintro e w' ⟨rfl, ⟨nd, rfl⟩⟩; have q33 : ((l0.length : Int) : Int) ≤ ((t236.length : Int) : Int) := of_decide_eq_true (by first | (with_reducible assumption) | assumption); obtain ⟨i033, hi033, _, hsz33, _⟩ := info_parts info33; have hroom33 : t236.length ≤ co10 := (Kd.R_reads' HO_4.out).2.1; have hC33 : Kd.C k33 _ Ao10 t236.length t236 := (Kd.R_reads' HO_4.out).2.2; (try clear hcut30); have hcut33 := cut_to (P := Tryd.prog) 22 33 .i64 Tryd.underlying22 hi033 Ao10 t236.length co10 (l0.length : Int) (of_decide_eq_true (by first | (with_reducible assumption) | assumption)) q33 hroom33; have hr33 := Kd.C_take (m := ((l0.length : Int) : Int).toNat) hC33 (by omega); have hy33 : y257.length = ((l0.length : Int) : Int).toNat := (by rw [Ny257.out, List.length_take]; omega); rw [← Ny257.out] at hr33; rw [← hy33] at hcut33; have HR260 := Aside0.mk hr33; have HC260 := Aside0.mk (show y257.length ≤ co10 from by omega); clear hr33 hC33 hroom33 hi033 hsz33; have KY33 := Aside0.mk hy33; clear hy33; have KL33 := Aside0.mk (show ((l0.length : Int) : Int).toNat ≤ t236.length from by omega); replace q33 := eq_true q33) | ((with_reducible refine gate_callee (f := 14) rfl ?_); refine goesL_ (some 59) rfl rfl Tryd.func14 (by kernel_rfl) rfl #[.slice Ao10 y257.length co10, .slice A0 l0.length c0] rfl (by (try simp only [List.map_toArray, List.map_cons, List.map_nil]); first | done | rfl | (simp only [List.length_drop, List.length_take]; rfl)) ?_; (with_reducible refine (stratalaw01_same.calls kj6 _ _ y257 _ _ l0 true _ ?side1 ?side2 ?side3 ?side4 A25.out).mono ?_); (case side1 => repeat (first | exact (by repeat (first | (with_reducible exact HR260.out) | (with_reducible refine Kd.C_alloc ?_ _) | (with_reducible refine Kd.C_drewN ?_ _) | (with_reducible refine Kd.C_drew ?_) | exact HR260.out)) | (with_reducible refine Kd.C_alloc ?_ _) | (with_reducible refine Kd.C_drewN ?_ _) | (with_reducible refine Kd.C_drew ?_))); (case side2 => exact HC260.out); (case side3 => repeat (first | exact (Kd.C_below HR0.out (by repeat (first | (with_reducible first | exact HB.out | apply below_alloc | apply pw_below_drewN | apply below_drew1) | exact HB.out))) | (with_reducible refine Kd.C_alloc ?_ _) | (with_reducible refine Kd.C_drewN ?_ _) | (with_reducible refine Kd.C_drew ?_))); (case side4 => exact HC0.out); rintro e w' ⟨rfl, ⟨nd, rfl⟩⟩; refine ⟨_, rfl, ?_⟩; have p262 : 0 ≤ ((l0.length : Int) : Int) := of_decide_eq_true (by first | (with_reducible assumption) | assumption); have q262 : (l0.length : Int) < (t236.length : Int) := of_decide_eq_true (by first | (with_reducible assumption) | assumption); obtain ⟨ad262, e262, hx262_0, hx262_1, hx262_2⟩ := at_T33 (Kd.R_reads' HO_4.out).2.2 (l0.length : Int) p262 q262; cases e262; (try simp only [Go.IntWalk.toNatUp] at hx262_0); (try simp only [Go.IntWalk.toNatUp] at hx262_1); (try simp only [Go.IntWalk.toNatUp] at hx262_2); replace p262 := eq_true p262; replace q262 := eq_true q262; have p263 : 0 ≤ ((l0.length : Int) : Int) := of_decide_eq_true (by first | (with_reducible assumption) | assumption); have q263 : (l0.length : Int) < (t236.length : Int) := of_decide_eq_true (by first | (with_reducible assumption) | assumption); obtain ⟨ad263, e263, hx263_0, hx263_1, hx263_2⟩ := at_T33 (Kd.R_reads' HO_4.out).2.2 (l0.length : Int) p263 q263; obtain rfl : ad262 = ad263 := (by injection e263); (try simp only [Go.IntWalk.toNatUp] at hx263_0); (try simp only [Go.IntWalk.toNatUp] at hx263_1); (try simp only [Go.IntWalk.toNatUp] at hx263_2); replace p263 := eq_true p263; replace q263 := eq_true q263; have p264 : 0 ≤ ((l0.length : Int) : Int) := of_decide_eq_true (by first | (with_reducible assumption) | assumption); have q264 : (l0.length : Int) < (t236.length : Int) := of_decide_eq_true (by first | (with_reducible assumption) | assumption); obtain ⟨ad264, e264, hx264_0, hx264_1, hx264_2⟩ := at_T33 (Kd.R_reads' HO_4.out).2.2 (l0.length : Int) p264 q264; obtain rfl : ad262 = ad264 := (by injection e264); (try simp only [Go.IntWalk.toNatUp] at hx264_0); (try simp only [Go.IntWalk.toNatUp] at hx264_1); (try simp only [Go.IntWalk.toNatUp] at hx264_2); replace p264 := eq_true p264; replace q264 := eq_true q264))
                            go_ret
                            exact ⟨by first | rfl | (simp [errW_none, errW_some] <;> rfl) | (simp [*, errW_none, errW_some] <;> rfl), by repeat (first | (with_reducible first | exact HB.out | apply below_alloc | apply pw_below_drewN | apply below_drew1) | exact HB.out)⟩
                          · rw [if_neg c29] at H
                            have c29b0 : (((rd_T33 t236 (l0.length : Int)).f1) == 77) = false := beq_eq_false_iff_ne.mpr c29
                            have c29b1 : (((rd_T33 t236 (l0.length : Int)).f1) != 77) = true := bne_iff_ne.mpr c29
                            obtain rfl := Option.some.inj H
                            have q34 : ((l0.length : Int) : Int) ≤ ((t236.length : Int) : Int) := of_decide_eq_true (by first | (with_reducible assumption) | assumption)
                            obtain ⟨i034, hi034, _, hsz34, _⟩ := info_parts info33
                            have hroom34 : t236.length ≤ co10 := (Kd.R_reads' HO_4.out).2.1
                            have hC34 : Kd.C k33 _ Ao10 t236.length t236 := (Kd.R_reads' HO_4.out).2.2
                            try clear hcut9
                            have hcut34 := cut_to (P := Tryd.prog) 22 33 .i64 Tryd.underlying22 hi034 Ao10 t236.length co10 (l0.length : Int) (of_decide_eq_true (by first | (with_reducible assumption) | assumption)) q34 hroom34
                            have hr34 := Kd.C_take (m := ((l0.length : Int) : Int).toNat) hC34 (by omega)
                            have hy34 : y248.length = ((l0.length : Int) : Int).toNat := (by rw [Ny248.out, List.length_take]; omega)
                            rw [← Ny248.out] at hr34
                            rw [← hy34] at hcut34
                            have HR251 := Aside0.mk hr34
                            have HC251 := Aside0.mk (show y248.length ≤ co10 from by omega)
                            clear hr34 hC34 hroom34 hi034 hsz34
                            have KY34 := Aside0.mk hy34
                            clear hy34
                            have KL34 := Aside0.mk (show ((l0.length : Int) : Int).toNat ≤ t236.length from by omega)
                            replace q34 := eq_true q34
                            go_wp2_with (first | ((with_reducible refine gate_callee (f := 12) rfl ?_); refine goesL_ (some 38) rfl rfl Tryd.func12 (by kernel_rfl) rfl #[.slice Ao10 y248.length co10] rfl (by (try simp only [List.map_toArray, List.map_cons, List.map_nil]); first | done | rfl | (simp only [List.length_drop, List.length_take]; rfl)) ?_; (with_reducible refine (bits_Row.calls kj6 _ _ y248 t252 t253 _ ?side1 ?side2 A18.out (by first | exact hT | exact hT.drewN _ | exact Tab.below hT (by repeat (first | (with_reducible first | exact HB.out | apply below_alloc | apply pw_below_drewN | apply below_drew1) | exact HB.out)))).mono ?_); (case side1 => repeat (first | exact (by repeat (first | (with_reducible exact HR251.out) | (with_reducible refine Kd.C_alloc ?_ _) | (with_reducible refine Kd.C_drewN ?_ _) | (with_reducible refine Kd.C_drew ?_) | exact HR251.out)) | (with_reducible refine Kd.C_alloc ?_ _) | (with_reducible refine Kd.C_drewN ?_ _) | (with_reducible refine Kd.C_drew ?_))); (case side2 => exact HC251.out); rintro e w35 ⟨rfl, hb⟩; refine ⟨_, rfl, ?_⟩; have n0_ := Aside0.mk (Kd.R_below (by (with_reducible repeat (first | apply Kd.R_alloc | apply Kd.R_drewN | apply Kd.R_drew)); exact HO_4.out) hb); have n1_ := Aside0.mk (Kd.C_below (by repeat (first | (with_reducible exact HR242.out) | (with_reducible refine Kd.C_alloc ?_ _) | (with_reducible refine Kd.C_drewN ?_ _) | (with_reducible refine Kd.C_drew ?_) | exact HR242.out)) hb); have n2_ := Aside0.mk (Kd.C_below (by repeat (first | (with_reducible exact HR251.out) | (with_reducible refine Kd.C_alloc ?_ _) | (with_reducible refine Kd.C_drewN ?_ _) | (with_reducible refine Kd.C_drew ?_) | exact HR251.out)) hb); have n3_ := Aside0.mk (below_step (by repeat (first | (with_reducible first | exact HB.out | apply below_alloc | apply pw_below_drewN | apply below_drew1) | exact HB.out)) hb); clear HO_4; clear HR242; clear HR251; clear HB; have HO_4 := n0_; have HR242 := n1_; have HR251 := n2_; have HB := n3_; clear n0_ n1_ n2_ n3_; (try clear hb); (try clear hb2); (try clear hk); (try clear hi)) | ((with_reducible refine gate_callee (f := 13) rfl ?_); refine goesL_ (some 43) rfl rfl Tryd.func13 (by kernel_rfl) rfl #[.slice A0 l0.length c0] rfl (by (try simp only [List.map_toArray, List.map_cons, List.map_nil]); first | done | rfl | (simp only [List.length_drop, List.length_take]; rfl)) ?_; (with_reducible refine (strataref01_Row.calls kj6 _ _ l0 t254 t255 _ ?side1 ?side2 A19.out).mono ?_); (case side1 => repeat (first | exact (Kd.C_below HR0.out HB.out) | (with_reducible refine Kd.C_alloc ?_ _) | (with_reducible refine Kd.C_drewN ?_ _) | (with_reducible refine Kd.C_drew ?_))); (case side2 => exact HC0.out); rintro e w36 ⟨rfl, hb⟩; refine ⟨_, rfl, ?_⟩; have n0_ := Aside0.mk (Kd.R_below (by (with_reducible repeat (first | apply Kd.R_alloc | apply Kd.R_drewN | apply Kd.R_drew)); exact HO_4.out) hb); have n1_ := Aside0.mk (Kd.C_below (by repeat (first | (with_reducible exact HR242.out) | (with_reducible refine Kd.C_alloc ?_ _) | (with_reducible refine Kd.C_drewN ?_ _) | (with_reducible refine Kd.C_drew ?_) | exact HR242.out)) hb); have n2_ := Aside0.mk (Kd.C_below (by repeat (first | (with_reducible exact HR251.out) | (with_reducible refine Kd.C_alloc ?_ _) | (with_reducible refine Kd.C_drewN ?_ _) | (with_reducible refine Kd.C_drew ?_) | exact HR251.out)) hb); have n3_ := Aside0.mk (below_step (by repeat (first | (with_reducible first | exact HB.out | apply below_alloc | apply pw_below_drewN | apply below_drew1) | exact HB.out)) hb); clear HO_4; clear HR242; clear HR251; clear HB; have HO_4 := n0_; have HR242 := n1_; have HR251 := n2_; have HB := n3_; clear n0_ n1_ n2_ n3_; (try clear hb); (try clear hb2); (try clear hk); (try clear hi)) | (go_at_call 11; (with_reducible refine (stratalaw01_num.calls t253 t256 _ A21.out).mono ?_); rintro e w' ⟨rfl, ⟨nd, rfl⟩⟩; have q37 : ((l0.length : Int) : Int) ≤ ((t236.length : Int) : Int) := of_decide_eq_true (by first | (with_reducible assumption) | assumption); obtain ⟨i037, hi037, _, hsz37, _⟩ := info_parts info33; have hroom37 : t236.length ≤ co10 := (Kd.R_reads' HO_4.out).2.1; have hC37 : Kd.C k33 _ Ao10 t236.length t236 := (Kd.R_reads' HO_4.out).2.2; (try clear hcut34); have hcut37 := cut_to (P := Tryd.prog) 22 33 .i64 Tryd.underlying22 hi037 Ao10 t236.length co10 (l0.length : Int) (of_decide_eq_true (by first | (with_reducible assumption) | assumption)) q37 hroom37; have hr37 := Kd.C_take (m := ((l0.length : Int) : Int).toNat) hC37 (by omega); have hy37 : y257.length = ((l0.length : Int) : Int).toNat := (by rw [Ny257.out, List.length_take]; omega); rw [← Ny257.out] at hr37; rw [← hy37] at hcut37; have HR260 := Aside0.mk hr37; have HC260 := Aside0.mk (show y257.length ≤ co10 from by omega); clear hr37 hC37 hroom37 hi037 hsz37; have KY37 := Aside0.mk hy37; clear hy37; have KL37 := Aside0.mk (show ((l0.length : Int) : Int).toNat ≤ t236.length from by omega); replace q37 := eq_true q37) | ((with_reducible refine gate_callee (f := 14) rfl ?_); refine goesL_ (some 59) rfl rfl Tryd.func14 (by kernel_rfl) rfl #[.slice Ao10 y257.length co10, .slice A0 l0.length c0] rfl (by (try simp only [List.map_toArray, List.map_cons, List.map_nil]); first | done | rfl | (simp only [List.length_drop, List.length_take]; rfl)) ?_; (with_reducible refine (stratalaw01_same.calls kj6 _ _ y257 _ _ l0 true _ ?side1 ?side2 ?side3 ?side4 A25.out).mono ?_); (case side1 => repeat (first | exact (by repeat (first | (with_reducible exact HR260.out) | (with_reducible refine Kd.C_alloc ?_ _) | (with_reducible refine Kd.C_drewN ?_ _) | (with_reducible refine Kd.C_drew ?_) | exact HR260.out)) | (with_reducible refine Kd.C_alloc ?_ _) | (with_reducible refine Kd.C_drewN ?_ _) | (with_reducible refine Kd.C_drew ?_))); (case side2 => exact HC260.out); (case side3 => repeat (first | exact (Kd.C_below HR0.out (by repeat (first | (with_reducible first | exact HB.out | apply below_alloc | apply pw_below_drewN | apply below_drew1) | exact HB.out))) | (with_reducible refine Kd.C_alloc ?_ _) | (with_reducible refine Kd.C_drewN ?_ _) | (with_reducible refine Kd.C_drew ?_))); (case side4 => exact HC0.out); rintro e w' ⟨rfl, ⟨nd, rfl⟩⟩; refine ⟨_, rfl, ?_⟩; have p262 : 0 ≤ ((l0.length : Int) : Int) := of_decide_eq_true (by first | (with_reducible assumption) | assumption); have q262 : (l0.length : Int) < (t236.length : Int) := of_decide_eq_true (by first | (with_reducible assumption) | assumption); obtain ⟨ad262, e262, hx262_0, hx262_1, hx262_2⟩ := at_T33 (Kd.R_reads' HO_4.out).2.2 (l0.length : Int) p262 q262; cases e262; (try simp only [Go.IntWalk.toNatUp] at hx262_0); (try simp only [Go.IntWalk.toNatUp] at hx262_1); (try simp only [Go.IntWalk.toNatUp] at hx262_2); replace p262 := eq_true p262; replace q262 := eq_true q262; have p263 : 0 ≤ ((l0.length : Int) : Int) := of_decide_eq_true (by first | (with_reducible assumption) | assumption); have q263 : (l0.length : Int) < (t236.length : Int) := of_decide_eq_true (by first | (with_reducible assumption) | assumption); obtain ⟨ad263, e263, hx263_0, hx263_1, hx263_2⟩ := at_T33 (Kd.R_reads' HO_4.out).2.2 (l0.length : Int) p263 q263; obtain rfl : ad262 = ad263 := (by injection e263); (try simp only [Go.IntWalk.toNatUp] at hx263_0); (try simp only [Go.IntWalk.toNatUp] at hx263_1); (try simp only [Go.IntWalk.toNatUp] at hx263_2); replace p263 := eq_true p263; replace q263 := eq_true q263))
                            go_ret
                            exact ⟨by first | rfl | (simp [errW_none, errW_some] <;> rfl) | (simp [*, errW_none, errW_some] <;> rfl), by repeat (first | (with_reducible first | exact HB.out | apply below_alloc | apply pw_below_drewN | apply below_drew1) | exact HB.out)⟩
                        · rw [if_neg c28] at H
                          have c28b0 : (((rd_T33 t236 (l0.length : Int)).f0) == 77) = false := beq_eq_false_iff_ne.mpr c28
                          have c28b1 : (((rd_T33 t236 (l0.length : Int)).f0) != 77) = true := bne_iff_ne.mpr c28
                          obtain rfl := Option.some.inj H
                          have q38 : ((l0.length : Int) : Int) ≤ ((t236.length : Int) : Int) := of_decide_eq_true (by first | (with_reducible assumption) | assumption)
                          obtain ⟨i038, hi038, _, hsz38, _⟩ := info_parts info33
                          have hroom38 : t236.length ≤ co10 := (Kd.R_reads' HO_4.out).2.1
                          have hC38 : Kd.C k33 _ Ao10 t236.length t236 := (Kd.R_reads' HO_4.out).2.2
                          try clear hcut9
                          have hcut38 := cut_to (P := Tryd.prog) 22 33 .i64 Tryd.underlying22 hi038 Ao10 t236.length co10 (l0.length : Int) (of_decide_eq_true (by first | (with_reducible assumption) | assumption)) q38 hroom38
                          have hr38 := Kd.C_take (m := ((l0.length : Int) : Int).toNat) hC38 (by omega)
                          have hy38 : y248.length = ((l0.length : Int) : Int).toNat := (by rw [Ny248.out, List.length_take]; omega)
                          rw [← Ny248.out] at hr38
                          rw [← hy38] at hcut38
                          have HR251 := Aside0.mk hr38
                          have HC251 := Aside0.mk (show y248.length ≤ co10 from by omega)
                          clear hr38 hC38 hroom38 hi038 hsz38
                          have KY38 := Aside0.mk hy38
                          clear hy38
                          have KL38 := Aside0.mk (show ((l0.length : Int) : Int).toNat ≤ t236.length from by omega)
                          replace q38 := eq_true q38
                          go_wp2_with (first | ((with_reducible refine gate_callee (f := 12) rfl ?_); refine goesL_ (some 38) rfl rfl Tryd.func12 (by kernel_rfl) rfl #[.slice Ao10 y248.length co10] rfl (by (try simp only [List.map_toArray, List.map_cons, List.map_nil]); first | done | rfl | (simp only [List.length_drop, List.length_take]; rfl)) ?_; (with_reducible refine (bits_Row.calls kj6 _ _ y248 t252 t253 _ ?side1 ?side2 A18.out (by first | exact hT | exact hT.drewN _ | exact Tab.below hT (by repeat (first | (with_reducible first | exact HB.out | apply below_alloc | apply pw_below_drewN | apply below_drew1) | exact HB.out)))).mono ?_); (case side1 => repeat (first | exact (by repeat (first | (with_reducible exact HR251.out) | (with_reducible refine Kd.C_alloc ?_ _) | (with_reducible refine Kd.C_drewN ?_ _) | (with_reducible refine Kd.C_drew ?_) | exact HR251.out)) | (with_reducible refine Kd.C_alloc ?_ _) | (with_reducible refine Kd.C_drewN ?_ _) | (with_reducible refine Kd.C_drew ?_))); (case side2 => exact HC251.out); rintro e w39 ⟨rfl, hb⟩; refine ⟨_, rfl, ?_⟩; have n0_ := Aside0.mk (Kd.R_below (by (with_reducible repeat (first | apply Kd.R_alloc | apply Kd.R_drewN | apply Kd.R_drew)); exact HO_4.out) hb); have n1_ := Aside0.mk (Kd.C_below (by repeat (first | (with_reducible exact HR242.out) | (with_reducible refine Kd.C_alloc ?_ _) | (with_reducible refine Kd.C_drewN ?_ _) | (with_reducible refine Kd.C_drew ?_) | exact HR242.out)) hb); have n2_ := Aside0.mk (Kd.C_below (by repeat (first | (with_reducible exact HR251.out) | (with_reducible refine Kd.C_alloc ?_ _) | (with_reducible refine Kd.C_drewN ?_ _) | (with_reducible refine Kd.C_drew ?_) | exact HR251.out)) hb); have n3_ := Aside0.mk (below_step (by repeat (first | (with_reducible first | exact HB.out | apply below_alloc | apply pw_below_drewN | apply below_drew1) | exact HB.out)) hb); clear HO_4; clear HR242; clear HR251; clear HB; have HO_4 := n0_; have HR242 := n1_; have HR251 := n2_; have HB := n3_; clear n0_ n1_ n2_ n3_; (try clear hb); (try clear hb2); (try clear hk); (try clear hi)) | ((with_reducible refine gate_callee (f := 13) rfl ?_); refine goesL_ (some 43) rfl rfl Tryd.func13 (by kernel_rfl) rfl #[.slice A0 l0.length c0] rfl (by (try simp only [List.map_toArray, List.map_cons, List.map_nil]); first | done | rfl | (simp only [List.length_drop, List.length_take]; rfl)) ?_; (with_reducible refine (strataref01_Row.calls kj6 _ _ l0 t254 t255 _ ?side1 ?side2 A19.out).mono ?_); (case side1 => repeat (first | exact (Kd.C_below HR0.out HB.out) | (with_reducible refine Kd.C_alloc ?_ _) | (with_reducible refine Kd.C_drewN ?_ _) | (with_reducible refine Kd.C_drew ?_))); (case side2 => exact HC0.out); rintro e w40 ⟨rfl, hb⟩; refine ⟨_, rfl, ?_⟩; have n0_ := Aside0.mk (Kd.R_below (by (with_reducible repeat (first | apply Kd.R_alloc | apply Kd.R_drewN | apply Kd.R_drew)); exact HO_4.out) hb); have n1_ := Aside0.mk (Kd.C_below (by repeat (first | (with_reducible exact HR242.out) | (with_reducible refine Kd.C_alloc ?_ _) | (with_reducible refine Kd.C_drewN ?_ _) | (with_reducible refine Kd.C_drew ?_) | exact HR242.out)) hb); have n2_ := Aside0.mk (Kd.C_below (by repeat (first | (with_reducible exact HR251.out) | (with_reducible refine Kd.C_alloc ?_ _) | (with_reducible refine Kd.C_drewN ?_ _) | (with_reducible refine Kd.C_drew ?_) | exact HR251.out)) hb); have n3_ := Aside0.mk (below_step (by repeat (first | (with_reducible first | exact HB.out | apply below_alloc | apply pw_below_drewN | apply below_drew1) | exact HB.out)) hb); clear HO_4; clear HR242; clear HR251; clear HB; have HO_4 := n0_; have HR242 := n1_; have HR251 := n2_; have HB := n3_; clear n0_ n1_ n2_ n3_; (try clear hb); (try clear hb2); (try clear hk); (try clear hi)) | (go_at_call 11; (with_reducible refine (stratalaw01_num.calls t253 t256 _ A21.out).mono ?_); rintro e w' ⟨rfl, ⟨nd, rfl⟩⟩; have q41 : ((l0.length : Int) : Int) ≤ ((t236.length : Int) : Int) := of_decide_eq_true (by first | (with_reducible assumption) | assumption); obtain ⟨i041, hi041, _, hsz41, _⟩ := info_parts info33; have hroom41 : t236.length ≤ co10 := (Kd.R_reads' HO_4.out).2.1; have hC41 : Kd.C k33 _ Ao10 t236.length t236 := (Kd.R_reads' HO_4.out).2.2; (try clear hcut38); have hcut41 := cut_to (P := Tryd.prog) 22 33 .i64 Tryd.underlying22 hi041 Ao10 t236.length co10 (l0.length : Int) (of_decide_eq_true (by first | (with_reducible assumption) | assumption)) q41 hroom41; have hr41 := Kd.C_take (m := ((l0.length : Int) : Int).toNat) hC41 (by omega); have hy41 : y257.length = ((l0.length : Int) : Int).toNat := (by rw [Ny257.out, List.length_take]; omega); rw [← Ny257.out] at hr41; rw [← hy41] at hcut41; have HR260 := Aside0.mk hr41; have HC260 := Aside0.mk (show y257.length ≤ co10 from by omega); clear hr41 hC41 hroom41 hi041 hsz41; have KY41 := Aside0.mk hy41; clear hy41; have KL41 := Aside0.mk (show ((l0.length : Int) : Int).toNat ≤ t236.length from by omega); replace q41 := eq_true q41) | ((with_reducible refine gate_callee (f := 14) rfl ?_); refine goesL_ (some 59) rfl rfl Tryd.func14 (by kernel_rfl) rfl #[.slice Ao10 y257.length co10, .slice A0 l0.length c0] rfl (by (try simp only [List.map_toArray, List.map_cons, List.map_nil]); first | done | rfl | (simp only [List.length_drop, List.length_take]; rfl)) ?_; (with_reducible refine (stratalaw01_same.calls kj6 _ _ y257 _ _ l0 true _ ?side1 ?side2 ?side3 ?side4 A25.out).mono ?_); (case side1 => repeat (first | exact (by repeat (first | (with_reducible exact HR260.out) | (with_reducible refine Kd.C_alloc ?_ _) | (with_reducible refine Kd.C_drewN ?_ _) | (with_reducible refine Kd.C_drew ?_) | exact HR260.out)) | (with_reducible refine Kd.C_alloc ?_ _) | (with_reducible refine Kd.C_drewN ?_ _) | (with_reducible refine Kd.C_drew ?_))); (case side2 => exact HC260.out); (case side3 => repeat (first | exact (Kd.C_below HR0.out (by repeat (first | (with_reducible first | exact HB.out | apply below_alloc | apply pw_below_drewN | apply below_drew1) | exact HB.out))) | (with_reducible refine Kd.C_alloc ?_ _) | (with_reducible refine Kd.C_drewN ?_ _) | (with_reducible refine Kd.C_drew ?_))); (case side4 => exact HC0.out); rintro e w' ⟨rfl, ⟨nd, rfl⟩⟩; refine ⟨_, rfl, ?_⟩; have p262 : 0 ≤ ((l0.length : Int) : Int) := of_decide_eq_true (by first | (with_reducible assumption) | assumption); have q262 : (l0.length : Int) < (t236.length : Int) := of_decide_eq_true (by first | (with_reducible assumption) | assumption); obtain ⟨ad262, e262, hx262_0, hx262_1, hx262_2⟩ := at_T33 (Kd.R_reads' HO_4.out).2.2 (l0.length : Int) p262 q262; cases e262; (try simp only [Go.IntWalk.toNatUp] at hx262_0); (try simp only [Go.IntWalk.toNatUp] at hx262_1); (try simp only [Go.IntWalk.toNatUp] at hx262_2); replace p262 := eq_true p262; replace q262 := eq_true q262))
                          go_ret
                          exact ⟨by first | rfl | (simp [errW_none, errW_some] <;> rfl) | (simp [*, errW_none, errW_some] <;> rfl), by repeat (first | (with_reducible first | exact HB.out | apply below_alloc | apply pw_below_drewN | apply below_drew1) | exact HB.out)⟩
                      · rw [if_neg c27] at H
                        exact absurd H (by simp)
                    · replace c26 := Bool.eq_false_iff.mpr c26
                      subst c26
                      have H1 : (some false) = some r := by rw [if_neg (show ¬ (false = true) by decide)] at H; exact H
                      clear H
                      have H := H1
                      clear H1
                      obtain rfl := Option.some.inj H
                      have q42 : ((l0.length : Int) : Int) ≤ ((t236.length : Int) : Int) := of_decide_eq_true (by first | (with_reducible assumption) | assumption)
                      obtain ⟨i042, hi042, _, hsz42, _⟩ := info_parts info33
                      have hroom42 : t236.length ≤ co10 := (Kd.R_reads' HO_4.out).2.1
                      have hC42 : Kd.C k33 _ Ao10 t236.length t236 := (Kd.R_reads' HO_4.out).2.2
                      try clear hcut9
                      have hcut42 := cut_to (P := Tryd.prog) 22 33 .i64 Tryd.underlying22 hi042 Ao10 t236.length co10 (l0.length : Int) (of_decide_eq_true (by first | (with_reducible assumption) | assumption)) q42 hroom42
                      have hr42 := Kd.C_take (m := ((l0.length : Int) : Int).toNat) hC42 (by omega)
                      have hy42 : y248.length = ((l0.length : Int) : Int).toNat := (by rw [Ny248.out, List.length_take]; omega)
                      rw [← Ny248.out] at hr42
                      rw [← hy42] at hcut42
                      have HR251 := Aside0.mk hr42
                      have HC251 := Aside0.mk (show y248.length ≤ co10 from by omega)
                      clear hr42 hC42 hroom42 hi042 hsz42
                      have KY42 := Aside0.mk hy42
                      clear hy42
                      have KL42 := Aside0.mk (show ((l0.length : Int) : Int).toNat ≤ t236.length from by omega)
                      replace q42 := eq_true q42
                      go_wp2_with (first | ((with_reducible refine gate_callee (f := 12) rfl ?_); refine goesL_ (some 38) rfl rfl Tryd.func12 (by kernel_rfl) rfl #[.slice Ao10 y248.length co10] rfl (by (try simp only [List.map_toArray, List.map_cons, List.map_nil]); first | done | rfl | (simp only [List.length_drop, List.length_take]; rfl)) ?_; (with_reducible refine (bits_Row.calls kj6 _ _ y248 t252 t253 _ ?side1 ?side2 A18.out (by first | exact hT | exact hT.drewN _ | exact Tab.below hT (by repeat (first | (with_reducible first | exact HB.out | apply below_alloc | apply pw_below_drewN | apply below_drew1) | exact HB.out)))).mono ?_); (case side1 => repeat (first | exact (by repeat (first | (with_reducible exact HR251.out) | (with_reducible refine Kd.C_alloc ?_ _) | (with_reducible refine Kd.C_drewN ?_ _) | (with_reducible refine Kd.C_drew ?_) | exact HR251.out)) | (with_reducible refine Kd.C_alloc ?_ _) | (with_reducible refine Kd.C_drewN ?_ _) | (with_reducible refine Kd.C_drew ?_))); (case side2 => exact HC251.out); rintro e w43 ⟨rfl, hb⟩; refine ⟨_, rfl, ?_⟩; have n0_ := Aside0.mk (Kd.R_below (by (with_reducible repeat (first | apply Kd.R_alloc | apply Kd.R_drewN | apply Kd.R_drew)); exact HO_4.out) hb); have n1_ := Aside0.mk (Kd.C_below (by repeat (first | (with_reducible exact HR242.out) | (with_reducible refine Kd.C_alloc ?_ _) | (with_reducible refine Kd.C_drewN ?_ _) | (with_reducible refine Kd.C_drew ?_) | exact HR242.out)) hb); have n2_ := Aside0.mk (Kd.C_below (by repeat (first | (with_reducible exact HR251.out) | (with_reducible refine Kd.C_alloc ?_ _) | (with_reducible refine Kd.C_drewN ?_ _) | (with_reducible refine Kd.C_drew ?_) | exact HR251.out)) hb); have n3_ := Aside0.mk (below_step (by repeat (first | (with_reducible first | exact HB.out | apply below_alloc | apply pw_below_drewN | apply below_drew1) | exact HB.out)) hb); clear HO_4; clear HR242; clear HR251; clear HB; have HO_4 := n0_; have HR242 := n1_; have HR251 := n2_; have HB := n3_; clear n0_ n1_ n2_ n3_; (try clear hb); (try clear hb2); (try clear hk); (try clear hi)) | ((with_reducible refine gate_callee (f := 13) rfl ?_); refine goesL_ (some 43) rfl rfl Tryd.func13 (by kernel_rfl) rfl #[.slice A0 l0.length c0] rfl (by (try simp only [List.map_toArray, List.map_cons, List.map_nil]); first | done | rfl | (simp only [List.length_drop, List.length_take]; rfl)) ?_; (with_reducible refine (strataref01_Row.calls kj6 _ _ l0 t254 t255 _ ?side1 ?side2 A19.out).mono ?_); (case side1 => repeat (first | exact (Kd.C_below HR0.out HB.out) | (with_reducible refine Kd.C_alloc ?_ _) | (with_reducible refine Kd.C_drewN ?_ _) | (with_reducible refine Kd.C_drew ?_))); (case side2 => exact HC0.out); rintro e w44 ⟨rfl, hb⟩; refine ⟨_, rfl, ?_⟩; have n0_ := Aside0.mk (Kd.R_below (by (with_reducible repeat (first | apply Kd.R_alloc | apply Kd.R_drewN | apply Kd.R_drew)); exact HO_4.out) hb); have n1_ := Aside0.mk (Kd.C_below (by repeat (first | (with_reducible exact HR242.out) | (with_reducible refine Kd.C_alloc ?_ _) | (with_reducible refine Kd.C_drewN ?_ _) | (with_reducible refine Kd.C_drew ?_) | exact HR242.out)) hb); have n2_ := Aside0.mk (Kd.C_below (by repeat (first | (with_reducible exact HR251.out) | (with_reducible refine Kd.C_alloc ?_ _) | (with_reducible refine Kd.C_drewN ?_ _) | (with_reducible refine Kd.C_drew ?_) | exact HR251.out)) hb); have n3_ := Aside0.mk (below_step (by repeat (first | (with_reducible first | exact HB.out | apply below_alloc | apply pw_below_drewN | apply below_drew1) | exact HB.out)) hb); clear HO_4; clear HR242; clear HR251; clear HB; have HO_4 := n0_; have HR242 := n1_; have HR251 := n2_; have HB := n3_; clear n0_ n1_ n2_ n3_; (try clear hb); (try clear hb2); (try clear hk); (try clear hi)) | (go_at_call 11; (with_reducible refine (stratalaw01_num.calls t253 t256 _ A21.out).mono ?_); rintro e w' ⟨rfl, ⟨nd, rfl⟩⟩; have q45 : ((l0.length : Int) : Int) ≤ ((t236.length : Int) : Int) := of_decide_eq_true (by first | (with_reducible assumption) | assumption); obtain ⟨i045, hi045, _, hsz45, _⟩ := info_parts info33; have hroom45 : t236.length ≤ co10 := (Kd.R_reads' HO_4.out).2.1; have hC45 : Kd.C k33 _ Ao10 t236.length t236 := (Kd.R_reads' HO_4.out).2.2; (try clear hcut42); have hcut45 := cut_to (P := Tryd.prog) 22 33 .i64 Tryd.underlying22 hi045 Ao10 t236.length co10 (l0.length : Int) (of_decide_eq_true (by first | (with_reducible assumption) | assumption)) q45 hroom45; have hr45 := Kd.C_take (m := ((l0.length : Int) : Int).toNat) hC45 (by omega); have hy45 : y257.length = ((l0.length : Int) : Int).toNat := (by rw [Ny257.out, List.length_take]; omega); rw [← Ny257.out] at hr45; rw [← hy45] at hcut45; have HR260 := Aside0.mk hr45; have HC260 := Aside0.mk (show y257.length ≤ co10 from by omega); clear hr45 hC45 hroom45 hi045 hsz45; have KY45 := Aside0.mk hy45; clear hy45; have KL45 := Aside0.mk (show ((l0.length : Int) : Int).toNat ≤ t236.length from by omega); replace q45 := eq_true q45) | ((with_reducible refine gate_callee (f := 14) rfl ?_); refine goesL_ (some 59) rfl rfl Tryd.func14 (by kernel_rfl) rfl #[.slice Ao10 y257.length co10, .slice A0 l0.length c0] rfl (by (try simp only [List.map_toArray, List.map_cons, List.map_nil]); first | done | rfl | (simp only [List.length_drop, List.length_take]; rfl)) ?_; (with_reducible refine (stratalaw01_same.calls kj6 _ _ y257 _ _ l0 false _ ?side1 ?side2 ?side3 ?side4 A25.out).mono ?_); (case side1 => repeat (first | exact (by repeat (first | (with_reducible exact HR260.out) | (with_reducible refine Kd.C_alloc ?_ _) | (with_reducible refine Kd.C_drewN ?_ _) | (with_reducible refine Kd.C_drew ?_) | exact HR260.out)) | (with_reducible refine Kd.C_alloc ?_ _) | (with_reducible refine Kd.C_drewN ?_ _) | (with_reducible refine Kd.C_drew ?_))); (case side2 => exact HC260.out); (case side3 => repeat (first | exact (Kd.C_below HR0.out (by repeat (first | (with_reducible first | exact HB.out | apply below_alloc | apply pw_below_drewN | apply below_drew1) | exact HB.out))) | (with_reducible refine Kd.C_alloc ?_ _) | (with_reducible refine Kd.C_drewN ?_ _) | (with_reducible refine Kd.C_drew ?_))); (case side4 => exact HC0.out); rintro e w' ⟨rfl, ⟨nd, rfl⟩⟩; refine ⟨_, rfl, ?_⟩))
                      go_ret
                      exact ⟨by first | rfl | (simp [errW_none, errW_some] <;> rfl) | (simp [*, errW_none, errW_some] <;> rfl), by repeat (first | (with_reducible first | exact HB.out | apply below_alloc | apply pw_below_drewN | apply below_drew1) | exact HB.out)⟩
                  · rw [if_neg c22] at H
                    have c22b0 : (t256 == t255) = false := beq_eq_false_iff_ne.mpr c22
                    have c22b1 : (t256 != t255) = true := bne_iff_ne.mpr c22
                    obtain rfl := Option.some.inj H
                    have q46 : ((l0.length : Int) : Int) ≤ ((t236.length : Int) : Int) := of_decide_eq_true (by first | (with_reducible assumption) | assumption)
                    obtain ⟨i046, hi046, _, hsz46, _⟩ := info_parts info33
                    have hroom46 : t236.length ≤ co10 := (Kd.R_reads' HO_4.out).2.1
                    have hC46 : Kd.C k33 _ Ao10 t236.length t236 := (Kd.R_reads' HO_4.out).2.2
                    try clear hcut9
                    have hcut46 := cut_to (P := Tryd.prog) 22 33 .i64 Tryd.underlying22 hi046 Ao10 t236.length co10 (l0.length : Int) (of_decide_eq_true (by first | (with_reducible assumption) | assumption)) q46 hroom46
                    have hr46 := Kd.C_take (m := ((l0.length : Int) : Int).toNat) hC46 (by omega)
                    have hy46 : y248.length = ((l0.length : Int) : Int).toNat := (by rw [Ny248.out, List.length_take]; omega)
                    rw [← Ny248.out] at hr46
                    rw [← hy46] at hcut46
                    have HR251 := Aside0.mk hr46
                    have HC251 := Aside0.mk (show y248.length ≤ co10 from by omega)
                    clear hr46 hC46 hroom46 hi046 hsz46
                    have KY46 := Aside0.mk hy46
                    clear hy46
                    have KL46 := Aside0.mk (show ((l0.length : Int) : Int).toNat ≤ t236.length from by omega)
                    replace q46 := eq_true q46
                    go_wp2_with (first | ((with_reducible refine gate_callee (f := 12) rfl ?_); refine goesL_ (some 38) rfl rfl Tryd.func12 (by kernel_rfl) rfl #[.slice Ao10 y248.length co10] rfl (by (try simp only [List.map_toArray, List.map_cons, List.map_nil]); first | done | rfl | (simp only [List.length_drop, List.length_take]; rfl)) ?_; (with_reducible refine (bits_Row.calls kj6 _ _ y248 t252 t253 _ ?side1 ?side2 A18.out (by first | exact hT | exact hT.drewN _ | exact Tab.below hT (by repeat (first | (with_reducible first | exact HB.out | apply below_alloc | apply pw_below_drewN | apply below_drew1) | exact HB.out)))).mono ?_); (case side1 => repeat (first | exact (by repeat (first | (with_reducible exact HR251.out) | (with_reducible refine Kd.C_alloc ?_ _) | (with_reducible refine Kd.C_drewN ?_ _) | (with_reducible refine Kd.C_drew ?_) | exact HR251.out)) | (with_reducible refine Kd.C_alloc ?_ _) | (with_reducible refine Kd.C_drewN ?_ _) | (with_reducible refine Kd.C_drew ?_))); (case side2 => exact HC251.out); rintro e w47 ⟨rfl, hb⟩; refine ⟨_, rfl, ?_⟩; have n0_ := Aside0.mk (Kd.R_below (by (with_reducible repeat (first | apply Kd.R_alloc | apply Kd.R_drewN | apply Kd.R_drew)); exact HO_4.out) hb); have n1_ := Aside0.mk (Kd.C_below (by repeat (first | (with_reducible exact HR242.out) | (with_reducible refine Kd.C_alloc ?_ _) | (with_reducible refine Kd.C_drewN ?_ _) | (with_reducible refine Kd.C_drew ?_) | exact HR242.out)) hb); have n2_ := Aside0.mk (Kd.C_below (by repeat (first | (with_reducible exact HR251.out) | (with_reducible refine Kd.C_alloc ?_ _) | (with_reducible refine Kd.C_drewN ?_ _) | (with_reducible refine Kd.C_drew ?_) | exact HR251.out)) hb); have n3_ := Aside0.mk (below_step (by repeat (first | (with_reducible first | exact HB.out | apply below_alloc | apply pw_below_drewN | apply below_drew1) | exact HB.out)) hb); clear HO_4; clear HR242; clear HR251; clear HB; have HO_4 := n0_; have HR242 := n1_; have HR251 := n2_; have HB := n3_; clear n0_ n1_ n2_ n3_; (try clear hb); (try clear hb2); (try clear hk); (try clear hi)) | ((with_reducible refine gate_callee (f := 13) rfl ?_); refine goesL_ (some 43) rfl rfl Tryd.func13 (by kernel_rfl) rfl #[.slice A0 l0.length c0] rfl (by (try simp only [List.map_toArray, List.map_cons, List.map_nil]); first | done | rfl | (simp only [List.length_drop, List.length_take]; rfl)) ?_; (with_reducible refine (strataref01_Row.calls kj6 _ _ l0 t254 t255 _ ?side1 ?side2 A19.out).mono ?_); (case side1 => repeat (first | exact (Kd.C_below HR0.out HB.out) | (with_reducible refine Kd.C_alloc ?_ _) | (with_reducible refine Kd.C_drewN ?_ _) | (with_reducible refine Kd.C_drew ?_))); (case side2 => exact HC0.out); rintro e w48 ⟨rfl, hb⟩; refine ⟨_, rfl, ?_⟩; have n0_ := Aside0.mk (Kd.R_below (by (with_reducible repeat (first | apply Kd.R_alloc | apply Kd.R_drewN | apply Kd.R_drew)); exact HO_4.out) hb); have n1_ := Aside0.mk (Kd.C_below (by repeat (first | (with_reducible exact HR242.out) | (with_reducible refine Kd.C_alloc ?_ _) | (with_reducible refine Kd.C_drewN ?_ _) | (with_reducible refine Kd.C_drew ?_) | exact HR242.out)) hb); have n2_ := Aside0.mk (Kd.C_below (by repeat (first | (with_reducible exact HR251.out) | (with_reducible refine Kd.C_alloc ?_ _) | (with_reducible refine Kd.C_drewN ?_ _) | (with_reducible refine Kd.C_drew ?_) | exact HR251.out)) hb); have n3_ := Aside0.mk (below_step (by repeat (first | (with_reducible first | exact HB.out | apply below_alloc | apply pw_below_drewN | apply below_drew1) | exact HB.out)) hb); clear HO_4; clear HR242; clear HR251; clear HB; have HO_4 := n0_; have HR242 := n1_; have HR251 := n2_; have HB := n3_; clear n0_ n1_ n2_ n3_; (try clear hb); (try clear hb2); (try clear hk); (try clear hi)) | (go_at_call 11; (with_reducible refine (stratalaw01_num.calls t253 t256 _ A21.out).mono ?_); rintro e w' ⟨rfl, ⟨nd, rfl⟩⟩))
                    go_ret
                    exact ⟨by first | rfl | (simp [errW_none, errW_some] <;> rfl) | (simp [*, errW_none, errW_some] <;> rfl), by repeat (first | (with_reducible first | exact HB.out | apply below_alloc | apply pw_below_drewN | apply below_drew1) | exact HB.out)⟩
                · rw [if_neg c20] at H
                  have c20b0 : (t252.toList == t254.toList) = false := beq_eq_false_iff_ne.mpr c20
                  have c20b1 : (t252.toList != t254.toList) = true := bne_iff_ne.mpr c20
                  obtain rfl := Option.some.inj H
                  have q49 : ((l0.length : Int) : Int) ≤ ((t236.length : Int) : Int) := of_decide_eq_true (by first | (with_reducible assumption) | assumption)
                  obtain ⟨i049, hi049, _, hsz49, _⟩ := info_parts info33
                  have hroom49 : t236.length ≤ co10 := (Kd.R_reads' HO_4.out).2.1
                  have hC49 : Kd.C k33 _ Ao10 t236.length t236 := (Kd.R_reads' HO_4.out).2.2
                  try clear hcut9
                  have hcut49 := cut_to (P := Tryd.prog) 22 33 .i64 Tryd.underlying22 hi049 Ao10 t236.length co10 (l0.length : Int) (of_decide_eq_true (by first | (with_reducible assumption) | assumption)) q49 hroom49
                  have hr49 := Kd.C_take (m := ((l0.length : Int) : Int).toNat) hC49 (by omega)
                  have hy49 : y248.length = ((l0.length : Int) : Int).toNat := (by rw [Ny248.out, List.length_take]; omega)
                  rw [← Ny248.out] at hr49
                  rw [← hy49] at hcut49
                  have HR251 := Aside0.mk hr49
                  have HC251 := Aside0.mk (show y248.length ≤ co10 from by omega)
                  clear hr49 hC49 hroom49 hi049 hsz49
                  have KY49 := Aside0.mk hy49
                  clear hy49
                  have KL49 := Aside0.mk (show ((l0.length : Int) : Int).toNat ≤ t236.length from by omega)
                  replace q49 := eq_true q49
                  go_wp2_with (first | ((with_reducible refine gate_callee (f := 12) rfl ?_); refine goesL_ (some 38) rfl rfl Tryd.func12 (by kernel_rfl) rfl #[.slice Ao10 y248.length co10] rfl (by (try simp only [List.map_toArray, List.map_cons, List.map_nil]); first | done | rfl | (simp only [List.length_drop, List.length_take]; rfl)) ?_; (with_reducible refine (bits_Row.calls kj6 _ _ y248 t252 t253 _ ?side1 ?side2 A18.out (by first | exact hT | exact hT.drewN _ | exact Tab.below hT (by repeat (first | (with_reducible first | exact HB.out | apply below_alloc | apply pw_below_drewN | apply below_drew1) | exact HB.out)))).mono ?_); (case side1 => repeat (first | exact (by repeat (first | (with_reducible exact HR251.out) | (with_reducible refine Kd.C_alloc ?_ _) | (with_reducible refine Kd.C_drewN ?_ _) | (with_reducible refine Kd.C_drew ?_) | exact HR251.out)) | (with_reducible refine Kd.C_alloc ?_ _) | (with_reducible refine Kd.C_drewN ?_ _) | (with_reducible refine Kd.C_drew ?_))); (case side2 => exact HC251.out); rintro e w50 ⟨rfl, hb⟩; refine ⟨_, rfl, ?_⟩; have n0_ := Aside0.mk (Kd.R_below (by (with_reducible repeat (first | apply Kd.R_alloc | apply Kd.R_drewN | apply Kd.R_drew)); exact HO_4.out) hb); have n1_ := Aside0.mk (Kd.C_below (by repeat (first | (with_reducible exact HR242.out) | (with_reducible refine Kd.C_alloc ?_ _) | (with_reducible refine Kd.C_drewN ?_ _) | (with_reducible refine Kd.C_drew ?_) | exact HR242.out)) hb); have n2_ := Aside0.mk (Kd.C_below (by repeat (first | (with_reducible exact HR251.out) | (with_reducible refine Kd.C_alloc ?_ _) | (with_reducible refine Kd.C_drewN ?_ _) | (with_reducible refine Kd.C_drew ?_) | exact HR251.out)) hb); have n3_ := Aside0.mk (below_step (by repeat (first | (with_reducible first | exact HB.out | apply below_alloc | apply pw_below_drewN | apply below_drew1) | exact HB.out)) hb); clear HO_4; clear HR242; clear HR251; clear HB; have HO_4 := n0_; have HR242 := n1_; have HR251 := n2_; have HB := n3_; clear n0_ n1_ n2_ n3_; (try clear hb); (try clear hb2); (try clear hk); (try clear hi)) | ((with_reducible refine gate_callee (f := 13) rfl ?_); refine goesL_ (some 43) rfl rfl Tryd.func13 (by kernel_rfl) rfl #[.slice A0 l0.length c0] rfl (by (try simp only [List.map_toArray, List.map_cons, List.map_nil]); first | done | rfl | (simp only [List.length_drop, List.length_take]; rfl)) ?_; (with_reducible refine (strataref01_Row.calls kj6 _ _ l0 t254 t255 _ ?side1 ?side2 A19.out).mono ?_); (case side1 => repeat (first | exact (Kd.C_below HR0.out HB.out) | (with_reducible refine Kd.C_alloc ?_ _) | (with_reducible refine Kd.C_drewN ?_ _) | (with_reducible refine Kd.C_drew ?_))); (case side2 => exact HC0.out); rintro e w51 ⟨rfl, hb⟩; refine ⟨_, rfl, ?_⟩; have n0_ := Aside0.mk (Kd.R_below (by (with_reducible repeat (first | apply Kd.R_alloc | apply Kd.R_drewN | apply Kd.R_drew)); exact HO_4.out) hb); have n1_ := Aside0.mk (Kd.C_below (by repeat (first | (with_reducible exact HR242.out) | (with_reducible refine Kd.C_alloc ?_ _) | (with_reducible refine Kd.C_drewN ?_ _) | (with_reducible refine Kd.C_drew ?_) | exact HR242.out)) hb); have n2_ := Aside0.mk (Kd.C_below (by repeat (first | (with_reducible exact HR251.out) | (with_reducible refine Kd.C_alloc ?_ _) | (with_reducible refine Kd.C_drewN ?_ _) | (with_reducible refine Kd.C_drew ?_) | exact HR251.out)) hb); have n3_ := Aside0.mk (below_step (by repeat (first | (with_reducible first | exact HB.out | apply below_alloc | apply pw_below_drewN | apply below_drew1) | exact HB.out)) hb); clear HO_4; clear HR242; clear HR251; clear HB; have HO_4 := n0_; have HR242 := n1_; have HR251 := n2_; have HB := n3_; clear n0_ n1_ n2_ n3_; (try clear hb); (try clear hb2); (try clear hk); (try clear hi)))
                  go_ret
                  exact ⟨by first | rfl | (simp [errW_none, errW_some] <;> rfl) | (simp [*, errW_none, errW_some] <;> rfl), by repeat (first | (with_reducible first | exact HB.out | apply below_alloc | apply pw_below_drewN | apply below_drew1) | exact HB.out)⟩
              · rw [if_neg c17] at H
                exact absurd H (by simp)
            · rw [if_neg c16] at H
              exact absurd H (by simp)
    · rw [if_neg c4] at H
      exact absurd H (by simp)
  · rw [if_neg c3] at H
    exact absurd H (by simp)

end Go.Proofs.YtbekgkikgcmmaaaDoor.PKys
