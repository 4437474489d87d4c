-- Written by the kit's print.py, called by xprint.py (a helper of this repo); some functions are taken from texts of this seat that were proved by hand.
import Derived.Test.YtbekgkikgcmmaaaDoorHBitM
import Derived.Test.YtbekgkikgcmmaaaDoorPBitx0
import Derived.Test.YtbekgkikgcmmaaaDoorPBitx1
import Derived.Test.YtbekgkikgcmmaaaDoorPBitx8
import Derived.Test.YtbekgkikgcmmaaaDoorPBitx9
import Derived.Test.YtbekgkikgcmmaaaDoorProg
import Derived.Below
import Derived.Deep.Draws
import Derived.Deep.AppendLies
import Derived.Maps.AppendAt
import Derived.OwnWalk
import Derived.Laws.BytesArg
import Derived.Laws.MakeOwn
import Derived.Laws.OwnMore
import Derived.Deep.OwnRows
import Derived.Tactics
import Derived.Lib.ConvBytes
import Derived.Laws.Slices
import Derived.WalkKit
import Derived.KernelRfl
import Derived.RowKit3
import Derived.Deep.LoopGhost
import Derived.Deep.QuietTactic
import Derived.BigQuiet
import Derived.WideLaws
import Derived.Deep.DeepCutAuto
import Derived.Deep.CutBlock
import Derived.Deep.RegionHeld3
import Derived.Laws.Rows
import Derived.Lib.AppendStr
import Derived.ArgAppend
import Derived.Laws.IdiomCopy
import Derived.OrdersHeld
import Derived.Laws.BitsLemmas
import Derived.RowKit
import Derived.Test.YtbekgkikgcmmaaaDoorHStr
import Derived.Test.YtbekgkikgcmmaaaDoorHBase
import Derived.Test.YtbekgkikgcmmaaaDoorHCompD
import Derived.Test.YtbekgkikgcmmaaaDoorHUv
import Derived.Test.YtbekgkikgcmmaaaDoorWWords
import Derived.Test.YtbekgkikgcmmaaaDoorWLast
import Derived.Test.YtbekgkikgcmmaaaDoorWTab
import Derived.Test.YtbekgkikgcmmaaaDoorWFour
import Derived.Test.YtbekgkikgcmmaaaDoorWQPut
import Derived.Test.YtbekgkikgcmmaaaDoorWApart
import Derived.Test.YtbekgkikgcmmaaaDoorWArr
import Derived.Test.YtbekgkikgcmmaaaDoorWZeros
import Derived.Test.YtbekgkikgcmmaaaDoorWFoot
import Derived.Test.YtbekgkikgcmmaaaDoorWKept
import Derived.Test.YtbekgkikgcmmaaaDoorWShare
import Derived.Test.YtbekgkikgcmmaaaDoorWN
import Derived.Test.YtbekgkikgcmmaaaDoorWFootNe
import Derived.Test.YtbekgkikgcmmaaaDoorWAt
import Derived.Test.YtbekgkikgcmmaaaDoorWEqStruct
import Derived.Test.YtbekgkikgcmmaaaDoorWRepsOne
import Derived.Test.YtbekgkikgcmmaaaDoorWInv
import Derived.Test.YtbekgkikgcmmaaaDoorWInvWords
import Derived.Test.YtbekgkikgcmmaaaDoorWGuard
import Derived.Test.YtbekgkikgcmmaaaDoorWNEv
import Derived.Test.YtbekgkikgcmmaaaDoorWMore
import Derived.Test.YtbekgkikgcmmaaaDoorWSized
import Derived.Test.YtbekgkikgcmmaaaDoorPOrdA
namespace Go.Proofs.YtbekgkikgcmmaaaDoor.POrd
open Go.RowKit Go.Proofs.YtbekgkikgcmmaaaDoor.HBitE Go.Proofs.YtbekgkikgcmmaaaDoor.HGx Go.Proofs.YtbekgkikgcmmaaaDoor.PBit Go.Proofs.YtbekgkikgcmmaaaDoor.HBase Go.Proofs.YtbekgkikgcmmaaaDoor.HComp Go.Proofs.YtbekgkikgcmmaaaDoor.HUv Go.Proofs.YtbekgkikgcmmaaaDoorW.PrintWords Go.Proofs.YtbekgkikgcmmaaaDoorW.PrintLast Go.Proofs.YtbekgkikgcmmaaaDoorW.PrintMore
attribute [local go_sem] max2_int min2_int max_two min_two max_three min_three max_four min_four   -- for this text's walks alone
set_option linter.unusedVariables false
set_option linter.unusedSimpArgs false

/-! ### stratalaw01_BitsOrder: function 4 -/
mutual
def stratalaw01_BitsOrder.j0 : Nat → List (S33) → List (S33) → Bool → Option (Bool)
  | 0, _, _, _ => none
  | k + 1, x0, x1, x19 => if x19 = true then (some true) else ((stratalaw01_room.f k x0).bind fun t226 => (if 0 ≤ (x0.length : Int) then (if (x0.length : Int) ≤ (t226.length : Int) then ((bits_Key.f k (t226.take ((x0.length : Int) : Int).toNat)).bind fun bt233 => ((stratalaw01_room.f k x1).bind fun t235 => (if 0 ≤ (x1.length : Int) then (if (x1.length : Int) ≤ (t235.length : Int) then ((bits_Key.f k (t235.take ((x1.length : Int) : Int).toNat)).bind fun bt242 => ((stratalaw01_num.f bt233.2).bind fun t244 => (if t244 = 0 then ((stratalaw01_num.f bt242.2).bind fun t245 => (stratalaw01_BitsOrder.j1 k x0 x1 bt233.1 bt242.1 (t245 != 0))) else (stratalaw01_BitsOrder.j1 k x0 x1 bt233.1 bt242.1 true)))) else (none)) else (none)))) else (none)) else (none)))
def stratalaw01_BitsOrder.j1 : Nat → List (S33) → List (S33) → ByteArray → ByteArray → Bool → Option (Bool)
  | 0, _, _, _, _, _ => none
  | k + 1, x0, x1, x5, x7, x45 => if x45 = true then (some false) else ((stratalaw01_ahead.f k x0 x1).bind fun bt246 => (if ((Op.bytesLess x5.toList x7.toList) != bt246.1) = true then (stratalaw01_BitsOrder.j2 k x0 x1 x5 x7 bt246.1 bt246.2 true) else ((stratalaw01_same.f k x0 x1).bind fun t248 => (stratalaw01_BitsOrder.j2 k x0 x1 x5 x7 bt246.1 bt246.2 ((x5.toList == x7.toList) != t248)))))
def stratalaw01_BitsOrder.j2 : Nat → List (S33) → List (S33) → ByteArray → ByteArray → Bool → Bool → Bool → Option (Bool)
  | 0, _, _, _, _, _, _, _ => none
  | k + 1, x0, x1, x5, x7, x9, x10, x65 => if x65 = true then (some false) else (if (x5.size : Int) ≤ (x7.size : Int) then (if 0 ≤ (x5.size : Int) then (stratalaw01_BitsOrder.j3 k x0 x1 x9 (((x7.extract 0 ((x5.size : Int) : Int).toNat).toList == x5.toList) != x10)) else (none)) else (stratalaw01_BitsOrder.j3 k x0 x1 x9 (false != x10)))
def stratalaw01_BitsOrder.j3 : Nat → List (S33) → List (S33) → Bool → Bool → Option (Bool)
  | 0, _, _, _, _ => none
  | k + 1, x0, x1, x9, x80 => if x80 = true then (some false) else ((bits_Compare.f k x0 x1).bind fun t249 => (if ((decide (t249 < 0)) == x9) = true then ((stratalaw01_same.f k x0 x1).bind fun t250 => (if ((t249 == 0) == t250) = true then ((bits_Compare.f k x1 x0).bind fun t251 => (some (t249 == (wrap64 (-t251))))) else (some false))) else (some false)))
end
def stratalaw01_BitsOrder.f (k : Nat) (l0 : List (S33)) (l1 : List (S33)) : Option (Bool) := (stratalaw01_may.f k l0).bind fun t224 => (if t224 = true then ((stratalaw01_may.f k l1).bind fun t225 => (stratalaw01_BitsOrder.j0 k l0 l1 (!t225))) else (stratalaw01_BitsOrder.j0 k l0 l1 true))
theorem stratalaw01_BitsOrder.mono_l : ∀ k, (∀ y0 y1 y2, LeO (stratalaw01_BitsOrder.j0 k y0 y1 y2) (stratalaw01_BitsOrder.j0 (k + 1) y0 y1 y2)) ∧ (∀ y0 y1 y2 y3 y4, LeO (stratalaw01_BitsOrder.j1 k y0 y1 y2 y3 y4) (stratalaw01_BitsOrder.j1 (k + 1) y0 y1 y2 y3 y4)) ∧ (∀ y0 y1 y2 y3 y4 y5 y6, LeO (stratalaw01_BitsOrder.j2 k y0 y1 y2 y3 y4 y5 y6) (stratalaw01_BitsOrder.j2 (k + 1) y0 y1 y2 y3 y4 y5 y6)) ∧ (∀ y0 y1 y2 y3, LeO (stratalaw01_BitsOrder.j3 k y0 y1 y2 y3) (stratalaw01_BitsOrder.j3 (k + 1) y0 y1 y2 y3))
  | 0 => ⟨fun _ _ _ r h => by simp [stratalaw01_BitsOrder.j0] at h, fun _ _ _ _ _ r h => by simp [stratalaw01_BitsOrder.j1] at h, fun _ _ _ _ _ _ _ r h => by simp [stratalaw01_BitsOrder.j2] at h, fun _ _ _ _ r h => by simp [stratalaw01_BitsOrder.j3] at h⟩
  | k + 1 => by
    obtain ⟨ih0, ih1, ih2, ih3⟩ := stratalaw01_BitsOrder.mono_l k
    refine ⟨?_, ?_, ?_, ?_⟩
    · intro y0 y1 y2
      unfold stratalaw01_BitsOrder.j0
      repeat' first
      | (with_reducible exact ih0 _ _ _)
      | (with_reducible exact ih1 _ _ _ _ _)
      | (with_reducible exact ih2 _ _ _ _ _ _ _)
      | (with_reducible exact ih3 _ _ _ _)
      | (with_reducible exact bits_Compare.mono _ _ _)
      | (with_reducible exact bits_Key.mono _ _)
      | (with_reducible exact stratalaw01_ahead.mono _ _ _)
      | (with_reducible exact stratalaw01_may.mono _ _)
      | (with_reducible exact stratalaw01_room.mono _ _)
      | (with_reducible exact stratalaw01_same.mono _ _ _)
      | (with_reducible exact LeO.refl _)
      | (with_reducible exact LeO.none _)
      | (with_reducible refine LeO.ite ?_ ?_)
      | (with_reducible refine LeO.bind ?_ (fun _ => ?_))
      | exact ih0 _ _ _
      | exact ih1 _ _ _ _ _
      | exact ih2 _ _ _ _ _ _ _
      | exact ih3 _ _ _ _
      | exact bits_Compare.mono _ _ _
      | exact bits_Key.mono _ _
      | exact stratalaw01_ahead.mono _ _ _
      | exact stratalaw01_may.mono _ _
      | exact stratalaw01_room.mono _ _
      | exact stratalaw01_same.mono _ _ _
      | exact LeO.none _
      | refine LeO.ite ?_ ?_
      | refine LeO.bind ?_ (fun _ => ?_)
    · intro y0 y1 y2 y3 y4
      unfold stratalaw01_BitsOrder.j1
      repeat' first
      | (with_reducible exact ih0 _ _ _)
      | (with_reducible exact ih1 _ _ _ _ _)
      | (with_reducible exact ih2 _ _ _ _ _ _ _)
      | (with_reducible exact ih3 _ _ _ _)
      | (with_reducible exact bits_Compare.mono _ _ _)
      | (with_reducible exact bits_Key.mono _ _)
      | (with_reducible exact stratalaw01_ahead.mono _ _ _)
      | (with_reducible exact stratalaw01_may.mono _ _)
      | (with_reducible exact stratalaw01_room.mono _ _)
      | (with_reducible exact stratalaw01_same.mono _ _ _)
      | (with_reducible exact LeO.refl _)
      | (with_reducible exact LeO.none _)
      | (with_reducible refine LeO.ite ?_ ?_)
      | (with_reducible refine LeO.bind ?_ (fun _ => ?_))
      | exact ih0 _ _ _
      | exact ih1 _ _ _ _ _
      | exact ih2 _ _ _ _ _ _ _
      | exact ih3 _ _ _ _
      | exact bits_Compare.mono _ _ _
      | exact bits_Key.mono _ _
      | exact stratalaw01_ahead.mono _ _ _
      | exact stratalaw01_may.mono _ _
      | exact stratalaw01_room.mono _ _
      | exact stratalaw01_same.mono _ _ _
      | exact LeO.none _
      | refine LeO.ite ?_ ?_
      | refine LeO.bind ?_ (fun _ => ?_)
    · intro y0 y1 y2 y3 y4 y5 y6
      unfold stratalaw01_BitsOrder.j2
      repeat' first
      | (with_reducible exact ih0 _ _ _)
      | (with_reducible exact ih1 _ _ _ _ _)
      | (with_reducible exact ih2 _ _ _ _ _ _ _)
      | (with_reducible exact ih3 _ _ _ _)
      | (with_reducible exact bits_Compare.mono _ _ _)
      | (with_reducible exact bits_Key.mono _ _)
      | (with_reducible exact stratalaw01_ahead.mono _ _ _)
      | (with_reducible exact stratalaw01_may.mono _ _)
      | (with_reducible exact stratalaw01_room.mono _ _)
      | (with_reducible exact stratalaw01_same.mono _ _ _)
      | (with_reducible exact LeO.refl _)
      | (with_reducible exact LeO.none _)
      | (with_reducible refine LeO.ite ?_ ?_)
      | (with_reducible refine LeO.bind ?_ (fun _ => ?_))
      | exact ih0 _ _ _
      | exact ih1 _ _ _ _ _
      | exact ih2 _ _ _ _ _ _ _
      | exact ih3 _ _ _ _
      | exact bits_Compare.mono _ _ _
      | exact bits_Key.mono _ _
      | exact stratalaw01_ahead.mono _ _ _
      | exact stratalaw01_may.mono _ _
      | exact stratalaw01_room.mono _ _
      | exact stratalaw01_same.mono _ _ _
      | exact LeO.none _
      | refine LeO.ite ?_ ?_
      | refine LeO.bind ?_ (fun _ => ?_)
    · intro y0 y1 y2 y3
      unfold stratalaw01_BitsOrder.j3
      repeat' first
      | (with_reducible exact ih0 _ _ _)
      | (with_reducible exact ih1 _ _ _ _ _)
      | (with_reducible exact ih2 _ _ _ _ _ _ _)
      | (with_reducible exact ih3 _ _ _ _)
      | (with_reducible exact bits_Compare.mono _ _ _)
      | (with_reducible exact bits_Key.mono _ _)
      | (with_reducible exact stratalaw01_ahead.mono _ _ _)
      | (with_reducible exact stratalaw01_may.mono _ _)
      | (with_reducible exact stratalaw01_room.mono _ _)
      | (with_reducible exact stratalaw01_same.mono _ _ _)
      | (with_reducible exact LeO.refl _)
      | (with_reducible exact LeO.none _)
      | (with_reducible refine LeO.ite ?_ ?_)
      | (with_reducible refine LeO.bind ?_ (fun _ => ?_))
      | exact ih0 _ _ _
      | exact ih1 _ _ _ _ _
      | exact ih2 _ _ _ _ _ _ _
      | exact ih3 _ _ _ _
      | exact bits_Compare.mono _ _ _
      | exact bits_Key.mono _ _
      | exact stratalaw01_ahead.mono _ _ _
      | exact stratalaw01_may.mono _ _
      | exact stratalaw01_room.mono _ _
      | exact stratalaw01_same.mono _ _ _
      | exact LeO.none _
      | refine LeO.ite ?_ ?_
      | refine LeO.bind ?_ (fun _ => ?_)
theorem stratalaw01_BitsOrder.mono : ∀ a0 a1 k, LeO (stratalaw01_BitsOrder.f k a0 a1) (stratalaw01_BitsOrder.f (k + 1) a0 a1) := by
  intro a0 a1 k
  obtain ⟨ih0, ih1, ih2, ih3⟩ := stratalaw01_BitsOrder.mono_l k
  unfold stratalaw01_BitsOrder.f
  repeat' first
      | (with_reducible exact ih0 _ _ _)
      | (with_reducible exact ih1 _ _ _ _ _)
      | (with_reducible exact ih2 _ _ _ _ _ _ _)
      | (with_reducible exact ih3 _ _ _ _)
      | (with_reducible exact bits_Compare.mono _ _ _)
      | (with_reducible exact bits_Key.mono _ _)
      | (with_reducible exact stratalaw01_ahead.mono _ _ _)
      | (with_reducible exact stratalaw01_may.mono _ _)
      | (with_reducible exact stratalaw01_room.mono _ _)
      | (with_reducible exact stratalaw01_same.mono _ _ _)
      | (with_reducible exact LeO.refl _)
      | (with_reducible exact LeO.none _)
      | (with_reducible refine LeO.ite ?_ ?_)
      | (with_reducible refine LeO.bind ?_ (fun _ => ?_))
      | exact ih0 _ _ _
      | exact ih1 _ _ _ _ _
      | exact ih2 _ _ _ _ _ _ _
      | exact ih3 _ _ _ _
      | exact bits_Compare.mono _ _ _
      | exact bits_Key.mono _ _
      | exact stratalaw01_ahead.mono _ _ _
      | exact stratalaw01_may.mono _ _
      | exact stratalaw01_room.mono _ _
      | exact stratalaw01_same.mono _ _ _
      | exact LeO.none _
      | refine LeO.ite ?_ ?_
      | refine LeO.bind ?_ (fun _ => ?_)
set_option maxHeartbeats 8000000 in
set_option maxRecDepth 100000 in
theorem stratalaw01_BitsOrder.calls (k : Nat) (A0 : Option Addr) (c0 : Nat) (l0 : List (S33)) (A1 : Option Addr) (c1 : Nat) (l1 : List (S33)) (r : Bool) (w : World) (hr0 : Kd.C k33 w A0 l0.length l0) (hc0 : l0.length ≤ c0) (hr1 : Kd.C k33 w A1 l1.length l1) (hc1 : l1.length ≤ c1) (h : stratalaw01_BitsOrder.f k l0 l1 = some r) (hT : Tab w) :
    Calls Tryd.prog 4 #[.slice A0 l0.length c0, .slice A1 l1.length c1] w fun e w' => e = .returned (.bool r) ∧ Below w.heap.size w w' := by
  have HR0 := Aside0.mk hr0
  have HC0 := Aside0.mk hc0
  clear hr0 hc0
  have HR1 := Aside0.mk hr1
  have HC1 := Aside0.mk hc1
  clear hr1 hc1
  have HB := Aside0.mk (Below.refl w.heap.size w)
  have H : ((stratalaw01_may.f k l0).bind fun t224 => (if t224 = true then ((stratalaw01_may.f k l1).bind fun t225 => (stratalaw01_BitsOrder.j0 k l0 l1 (!t225))) else (stratalaw01_BitsOrder.j0 k l0 l1 true))) = some r := h
  clear h
  have HC3 := Aside0.mk H
  clear H
  go_enter Tryd.func4, Tryd.ntmps4
  go_upto_region 1 with (fail)
  go_cut [19] (fun v19 wc => ∃ (kq : Nat) (x19_2 : Bool), v19 = .bool x19_2 ∧ Aside0 (stratalaw01_BitsOrder.j0 kq l0 l1 x19_2 = some r) ∧ Aside0 (kq ≤ k) ∧ Aside0 (Below w.heap.size w wc))
  case first =>
    have H := HC3.out
    clear HC3
    replace H := Option.bind_eq_some_iff.mp H
    obtain ⟨t224, A40, H⟩ := H
    replace H : (if t224 = true then ((stratalaw01_may.f k l1).bind fun t225 => (stratalaw01_BitsOrder.j0 k l0 l1 (!t225))) else (stratalaw01_BitsOrder.j0 k l0 l1 true)) = some r := H
    have A4 := Aside0.mk A40
    clear A40
    by_cases c5 : t224 = true
    · subst c5
      have H1 : ((stratalaw01_may.f k l1).bind fun t225 => (stratalaw01_BitsOrder.j0 k l0 l1 (!t225))) = some r := by rw [if_pos rfl] at H; exact H
      clear H
      have H := H1
      clear H1
      replace H := Option.bind_eq_some_iff.mp H
      obtain ⟨t225, A60, H⟩ := H
      replace H : (stratalaw01_BitsOrder.j0 k l0 l1 (!t225)) = some r := H
      have A6 := Aside0.mk A60
      clear A60
      have H' := Aside0.mk H
      clear H
      go_wp2_with (first | ((with_reducible refine gate_callee (f := 15) rfl ?_); refine goesL_ (some 13) rfl rfl Tryd.func15 (by kernel_rfl) rfl #[.slice A0 l0.length c0] rfl (by (try simp only [List.map_toArray, List.map_cons, List.map_nil]); first | done | rfl | (simp only [List.length_drop, List.length_take]; rfl)) ?_; (with_reducible refine (stratalaw01_may.calls k _ _ l0 true _ ?side1 ?side2 A4.out).mono ?_); (case side1 => repeat (first | exact (Kd.C_below HR0.out HB.out) | (with_reducible refine Kd.C_alloc ?_ _) | (with_reducible refine Kd.C_drewN ?_ _) | (with_reducible refine Kd.C_drew ?_))); (case side2 => exact HC0.out); rintro e w7 ⟨rfl, hb⟩; refine ⟨_, rfl, ?_⟩; have n0_ := Aside0.mk (below_step (by repeat (first | (with_reducible first | exact HB.out | apply below_alloc | apply pw_below_drewN | apply below_drew1) | exact HB.out)) hb); clear HB; have HB := n0_; clear n0_; (try clear hb); (try clear hb2); (try clear hk); (try clear hi)) | (go_at_call 15; (with_reducible refine (stratalaw01_may.calls k _ _ l1 t225 _ ?side1 ?side2 A6.out).mono ?_); (case side1 => repeat (first | exact (Kd.C_below HR1.out HB.out) | (with_reducible refine Kd.C_alloc ?_ _) | (with_reducible refine Kd.C_drewN ?_ _) | (with_reducible refine Kd.C_drew ?_))); (case side2 => exact HC1.out); rintro e w8 ⟨rfl, hb⟩; have n0_ := Aside0.mk (below_step (by repeat (first | (with_reducible first | exact HB.out | apply below_alloc | apply pw_below_drewN | apply below_drew1) | exact HB.out)) hb); clear HB; have HB := n0_; clear n0_; (try clear hb); (try clear hb2); (try clear hk); (try clear hi)))
      go_meet
      case rel => exact ⟨_, (!t225), (by first | rfl | (simp; done) | (simp [*]; done)), H', ⟨by first | omega | exact Nat.le_refl _⟩, ⟨by repeat (first | (with_reducible first | exact HB.out | apply below_alloc | apply pw_below_drewN | apply below_drew1) | exact HB.out)⟩⟩
    · replace c5 := Bool.eq_false_iff.mpr c5
      subst c5
      have H1 : (stratalaw01_BitsOrder.j0 k l0 l1 true) = some r := by rw [if_neg (show ¬ (false = true) by decide)] at H; exact H
      clear H
      have H := H1
      clear H1
      have H' := Aside0.mk H
      clear H
      go_wp2_with (first | ((with_reducible refine gate_callee (f := 15) rfl ?_); refine goesL_ (some 13) rfl rfl Tryd.func15 (by kernel_rfl) rfl #[.slice A0 l0.length c0] rfl (by (try simp only [List.map_toArray, List.map_cons, List.map_nil]); first | done | rfl | (simp only [List.length_drop, List.length_take]; rfl)) ?_; (with_reducible refine (stratalaw01_may.calls k _ _ l0 false _ ?side1 ?side2 A4.out).mono ?_); (case side1 => repeat (first | exact (Kd.C_below HR0.out HB.out) | (with_reducible refine Kd.C_alloc ?_ _) | (with_reducible refine Kd.C_drewN ?_ _) | (with_reducible refine Kd.C_drew ?_))); (case side2 => exact HC0.out); rintro e w9 ⟨rfl, hb⟩; refine ⟨_, rfl, ?_⟩; have n0_ := Aside0.mk (below_step (by repeat (first | (with_reducible first | exact HB.out | apply below_alloc | apply pw_below_drewN | apply below_drew1) | exact HB.out)) hb); clear HB; have HB := n0_; clear n0_; (try clear hb); (try clear hb2); (try clear hk); (try clear hi)))
      go_meet
      case rel => exact ⟨_, (true), (by first | rfl | (simp; done) | (simp [*]; done)), H', ⟨by first | omega | exact Nat.le_refl _⟩, ⟨by repeat (first | (with_reducible first | exact HB.out | apply below_alloc | apply pw_below_drewN | apply below_drew1) | exact HB.out)⟩⟩
  case rest =>
    clear HC3
    try clear c1
    try clear p2
    try clear c4
    try clear c5
    obtain ⟨kq, x19_2, rfl, HA, HJ2, HB⟩ := hcut
    cases kq with
    | zero => exact absurd HA.out (by simp [stratalaw01_BitsOrder.j0])
    | succ kj2 =>
      have H := HA.out
      clear HA
      simp only [stratalaw01_BitsOrder.j0] at H
      by_cases c10 : x19_2 = true
      · subst c10
        have H1 : (some true) = some r := by rw [if_pos rfl] at H; exact H
        clear H
        have H := H1
        clear H1
        obtain rfl := Option.some.inj H
        go_wp2
        go_ret
        exact ⟨by first | rfl | (simp [errW_none, errW_some] <;> rfl) | (simp [*, errW_none, errW_some] <;> rfl), by repeat (first | (with_reducible first | exact HB.out | apply below_alloc | apply pw_below_drewN | apply below_drew1) | exact HB.out)⟩
      · replace c10 := Bool.eq_false_iff.mpr c10
        subst c10
        have H1 : ((stratalaw01_room.f kj2 l0).bind fun t226 => (if 0 ≤ (l0.length : Int) then (if (l0.length : Int) ≤ (t226.length : Int) then ((bits_Key.f kj2 (t226.take ((l0.length : Int) : Int).toNat)).bind fun bt233 => ((stratalaw01_room.f kj2 l1).bind fun t235 => (if 0 ≤ (l1.length : Int) then (if (l1.length : Int) ≤ (t235.length : Int) then ((bits_Key.f kj2 (t235.take ((l1.length : Int) : Int).toNat)).bind fun bt242 => ((stratalaw01_num.f bt233.2).bind fun t244 => (if t244 = 0 then ((stratalaw01_num.f bt242.2).bind fun t245 => (stratalaw01_BitsOrder.j1 kj2 l0 l1 bt233.1 bt242.1 (t245 != 0))) else (stratalaw01_BitsOrder.j1 kj2 l0 l1 bt233.1 bt242.1 true)))) else (none)) else (none)))) else (none)) else (none))) = some r := by rw [if_neg (show ¬ (false = true) by decide)] at H; exact H
        clear H
        have H := H1
        clear H1
        replace H := Option.bind_eq_some_iff.mp H
        obtain ⟨t226, A110, H⟩ := H
        replace H : (if 0 ≤ (l0.length : Int) then (if (l0.length : Int) ≤ (t226.length : Int) then ((bits_Key.f kj2 (t226.take ((l0.length : Int) : Int).toNat)).bind fun bt233 => ((stratalaw01_room.f kj2 l1).bind fun t235 => (if 0 ≤ (l1.length : Int) then (if (l1.length : Int) ≤ (t235.length : Int) then ((bits_Key.f kj2 (t235.take ((l1.length : Int) : Int).toNat)).bind fun bt242 => ((stratalaw01_num.f bt233.2).bind fun t244 => (if t244 = 0 then ((stratalaw01_num.f bt242.2).bind fun t245 => (stratalaw01_BitsOrder.j1 kj2 l0 l1 bt233.1 bt242.1 (t245 != 0))) else (stratalaw01_BitsOrder.j1 kj2 l0 l1 bt233.1 bt242.1 true)))) else (none)) else (none)))) else (none)) else (none)) = some r := H
        have A11 := Aside0.mk A110
        clear A110
        by_cases c12 : 0 ≤ (l0.length : Int)
        · rw [if_pos c12] at H
          have c12b0 := eq_true c12
          have c12b1 : decide (0 ≤ (l0.length : Int)) = true := decide_eq_true c12
          clear c12
          by_cases c13 : (l0.length : Int) ≤ (t226.length : Int)
          · rw [if_pos c13] at H
            have c13b0 := eq_true c13
            have c13b1 : decide ((l0.length : Int) ≤ (t226.length : Int)) = true := decide_eq_true c13
            clear c13
            obtain ⟨y229, hy229⟩ : ∃ y_ : List (S33), y_ = (t226.take ((l0.length : Int) : Int).toNat) := ⟨_, rfl⟩
            replace H : ((bits_Key.f kj2 y229).bind fun bt233 => ((stratalaw01_room.f kj2 l1).bind fun t235 => (if 0 ≤ (l1.length : Int) then (if (l1.length : Int) ≤ (t235.length : Int) then ((bits_Key.f kj2 (t235.take ((l1.length : Int) : Int).toNat)).bind fun bt242 => ((stratalaw01_num.f bt233.2).bind fun t244 => (if t244 = 0 then ((stratalaw01_num.f bt242.2).bind fun t245 => (stratalaw01_BitsOrder.j1 kj2 l0 l1 bt233.1 bt242.1 (t245 != 0))) else (stratalaw01_BitsOrder.j1 kj2 l0 l1 bt233.1 bt242.1 true)))) else (none)) else (none)))) = some r := by first | (rw [hy229]; with_reducible exact H) | (have H2_ := (Option.bind_some _ _).symm.trans H; rw [hy229]; with_reducible exact H2_) | (have H2_ := (Option.bind_some _ _).symm.trans H; with_reducible exact H2_) | with_reducible exact H | (rw [hy229]; exact H) | exact H
            have Ny229 := Aside0.mk hy229
            clear hy229
            replace H := Option.bind_eq_some_iff.mp H
            obtain ⟨⟨t233, t234⟩, A140, H⟩ := H
            replace H : ((stratalaw01_room.f kj2 l1).bind fun t235 => (if 0 ≤ (l1.length : Int) then (if (l1.length : Int) ≤ (t235.length : Int) then ((bits_Key.f kj2 (t235.take ((l1.length : Int) : Int).toNat)).bind fun bt242 => ((stratalaw01_num.f t234).bind fun t244 => (if t244 = 0 then ((stratalaw01_num.f bt242.2).bind fun t245 => (stratalaw01_BitsOrder.j1 kj2 l0 l1 t233 bt242.1 (t245 != 0))) else (stratalaw01_BitsOrder.j1 kj2 l0 l1 t233 bt242.1 true)))) else (none)) else (none))) = some r := H
            have A14 := Aside0.mk A140
            clear A140
            replace H := Option.bind_eq_some_iff.mp H
            obtain ⟨t235, A150, H⟩ := H
            replace H : (if 0 ≤ (l1.length : Int) then (if (l1.length : Int) ≤ (t235.length : Int) then ((bits_Key.f kj2 (t235.take ((l1.length : Int) : Int).toNat)).bind fun bt242 => ((stratalaw01_num.f t234).bind fun t244 => (if t244 = 0 then ((stratalaw01_num.f bt242.2).bind fun t245 => (stratalaw01_BitsOrder.j1 kj2 l0 l1 t233 bt242.1 (t245 != 0))) else (stratalaw01_BitsOrder.j1 kj2 l0 l1 t233 bt242.1 true)))) else (none)) else (none)) = some r := H
            have A15 := Aside0.mk A150
            clear A150
            by_cases c16 : 0 ≤ (l1.length : Int)
            · rw [if_pos c16] at H
              have c16b0 := eq_true c16
              have c16b1 : decide (0 ≤ (l1.length : Int)) = true := decide_eq_true c16
              clear c16
              by_cases c17 : (l1.length : Int) ≤ (t235.length : Int)
              · rw [if_pos c17] at H
                have c17b0 := eq_true c17
                have c17b1 : decide ((l1.length : Int) ≤ (t235.length : Int)) = true := decide_eq_true c17
                clear c17
                obtain ⟨y238, hy238⟩ : ∃ y_ : List (S33), y_ = (t235.take ((l1.length : Int) : Int).toNat) := ⟨_, rfl⟩
                replace H : ((bits_Key.f kj2 y238).bind fun bt242 => ((stratalaw01_num.f t234).bind fun t244 => (if t244 = 0 then ((stratalaw01_num.f bt242.2).bind fun t245 => (stratalaw01_BitsOrder.j1 kj2 l0 l1 t233 bt242.1 (t245 != 0))) else (stratalaw01_BitsOrder.j1 kj2 l0 l1 t233 bt242.1 true)))) = some r := by first | (rw [hy238]; with_reducible exact H) | (have H2_ := (Option.bind_some _ _).symm.trans H; rw [hy238]; with_reducible exact H2_) | (have H2_ := (Option.bind_some _ _).symm.trans H; with_reducible exact H2_) | with_reducible exact H | (rw [hy238]; exact H) | exact H
                have Ny238 := Aside0.mk hy238
                clear hy238
                replace H := Option.bind_eq_some_iff.mp H
                obtain ⟨⟨t242, t243⟩, A180, H⟩ := H
                replace H : ((stratalaw01_num.f t234).bind fun t244 => (if t244 = 0 then ((stratalaw01_num.f t243).bind fun t245 => (stratalaw01_BitsOrder.j1 kj2 l0 l1 t233 t242 (t245 != 0))) else (stratalaw01_BitsOrder.j1 kj2 l0 l1 t233 t242 true))) = some r := H
                have A18 := Aside0.mk A180
                clear A180
                have HC19 := Aside0.mk H
                clear H
                go_upto_region 5 with (first | ((with_reducible refine gate_callee (f := 8) rfl ?_); refine goesL_ (some 22) rfl rfl Tryd.func8 (by kernel_rfl) rfl #[.slice A0 l0.length c0] rfl (by (try simp only [List.map_toArray, List.map_cons, List.map_nil]); first | done | rfl | (simp only [List.length_drop, List.length_take]; rfl)) ?_; (with_reducible refine (stratalaw01_room.calls kj2 _ _ l0 t226 _ ?side1 ?side2 A11.out).mono ?_); (case side1 => repeat (first | exact (Kd.C_below HR0.out HB.out) | (with_reducible refine Kd.C_alloc ?_ _) | (with_reducible refine Kd.C_drewN ?_ _) | (with_reducible refine Kd.C_drew ?_))); (case side2 => exact HC0.out); rintro e w20 ⟨v227, rfl, ho0, hb⟩; refine ⟨_, rfl, ?_⟩; have n0_ := Aside0.mk (Kd.R_lower ho0 (below_size (by repeat (first | (with_reducible first | exact HB.out | apply below_alloc | apply pw_below_drewN | apply below_drew1) | exact HB.out)))); have n1_ := Aside0.mk (below_step (by repeat (first | (with_reducible first | exact HB.out | apply below_alloc | apply pw_below_drewN | apply below_drew1) | exact HB.out)) hb); clear HB; have HO228 := n0_; have HB := n1_; clear n0_ n1_; (try clear hb); (try clear hb2); (try clear hk); (try clear hi); (try clear ho0); obtain ⟨Ao22, co22, eo22⟩ := Kd.R_slice HO228.out; subst eo22; have q21 : ((l0.length : Int) : Int) ≤ ((t226.length : Int) : Int) := of_decide_eq_true (by first | (with_reducible assumption) | assumption); obtain ⟨i021, hi021, _, hsz21, _⟩ := info_parts info33; have hroom21 : t226.length ≤ co22 := (Kd.R_reads' HO228.out).2.1; have hC21 : Kd.C k33 _ Ao22 t226.length t226 := (Kd.R_reads' HO228.out).2.2; have hcut21 := cut_to (P := Tryd.prog) 22 33 .i64 Tryd.underlying22 hi021 Ao22 t226.length co22 (l0.length : Int) (of_decide_eq_true (by first | (with_reducible assumption) | assumption)) q21 hroom21; have hr21 := Kd.C_take (m := ((l0.length : Int) : Int).toNat) hC21 (by omega); have hy21 : y229.length = ((l0.length : Int) : Int).toNat := (by rw [Ny229.out, List.length_take]; omega); rw [← Ny229.out] at hr21; rw [← hy21] at hcut21; have HR232 := Aside0.mk hr21; have HC232 := Aside0.mk (show y229.length ≤ co22 from by omega); clear hr21 hC21 hroom21 hi021 hsz21; have KY21 := Aside0.mk hy21; clear hy21; have KL21 := Aside0.mk (show ((l0.length : Int) : Int).toNat ≤ t226.length from by omega); replace q21 := eq_true q21) | ((with_reducible refine gate_callee (f := 9) rfl ?_); refine goesL_ (some 26) rfl rfl Tryd.func9 (by kernel_rfl) rfl #[.slice Ao22 y229.length co22] rfl (by (try simp only [List.map_toArray, List.map_cons, List.map_nil]); first | done | rfl | (simp only [List.length_drop, List.length_take]; rfl)) ?_; (with_reducible refine (bits_Key.calls kj2 _ _ y229 t233 t234 _ ?side1 ?side2 A14.out (by first | exact hT | exact hT.drewN _ | exact Tab.below hT (by repeat (first | (with_reducible first | exact HB.out | apply below_alloc | apply pw_below_drewN | apply below_drew1) | exact HB.out)))).mono ?_); (case side1 => repeat (first | exact (by repeat (first | (with_reducible exact HR232.out) | (with_reducible refine Kd.C_alloc ?_ _) | (with_reducible refine Kd.C_drewN ?_ _) | (with_reducible refine Kd.C_drew ?_) | exact HR232.out)) | (with_reducible refine Kd.C_alloc ?_ _) | (with_reducible refine Kd.C_drewN ?_ _) | (with_reducible refine Kd.C_drew ?_))); (case side2 => exact HC232.out); rintro e w23 ⟨rfl, hb⟩; refine ⟨_, rfl, ?_⟩; have n0_ := Aside0.mk (Kd.R_below (by (with_reducible repeat (first | apply Kd.R_alloc | apply Kd.R_drewN | apply Kd.R_drew)); exact HO228.out) hb); have n1_ := Aside0.mk (Kd.C_below (by repeat (first | (with_reducible exact HR232.out) | (with_reducible refine Kd.C_alloc ?_ _) | (with_reducible refine Kd.C_drewN ?_ _) | (with_reducible refine Kd.C_drew ?_) | exact HR232.out)) hb); have n2_ := Aside0.mk (below_step (by repeat (first | (with_reducible first | exact HB.out | apply below_alloc | apply pw_below_drewN | apply below_drew1) | exact HB.out)) hb); clear HO228; clear HR232; clear HB; have HO228 := n0_; have HR232 := n1_; have HB := n2_; clear n0_ n1_ n2_; (try clear hb); (try clear hb2); (try clear hk); (try clear hi)) | ((with_reducible refine gate_callee (f := 8) rfl ?_); refine goesL_ (some 31) rfl rfl Tryd.func8 (by kernel_rfl) rfl #[.slice A1 l1.length c1] rfl (by (try simp only [List.map_toArray, List.map_cons, List.map_nil]); first | done | rfl | (simp only [List.length_drop, List.length_take]; rfl)) ?_; (with_reducible refine (stratalaw01_room.calls kj2 _ _ l1 t235 _ ?side1 ?side2 A15.out).mono ?_); (case side1 => repeat (first | exact (Kd.C_below HR1.out HB.out) | (with_reducible refine Kd.C_alloc ?_ _) | (with_reducible refine Kd.C_drewN ?_ _) | (with_reducible refine Kd.C_drew ?_))); (case side2 => exact HC1.out); rintro e w24 ⟨v236, rfl, ho0, hb⟩; refine ⟨_, rfl, ?_⟩; have n0_ := Aside0.mk (Kd.R_elder' (by (with_reducible repeat (first | apply Kd.R_alloc | apply Kd.R_drewN | apply Kd.R_drew)); exact HO228.out) (Kd.R_base ho0) hb); have n1_ := Aside0.mk (Kd.R_lower (Kd.R_new' ho0 (Kd.R_lt (by (with_reducible repeat (first | apply Kd.R_alloc | apply Kd.R_drewN | apply Kd.R_drew)); exact HO228.out))) (below_size (by repeat (first | (with_reducible first | exact HB.out | apply below_alloc | apply pw_below_drewN | apply below_drew1) | exact HB.out)))); have n2_ := Aside0.mk (Kd.C_below (by repeat (first | (with_reducible exact HR232.out) | (with_reducible refine Kd.C_alloc ?_ _) | (with_reducible refine Kd.C_drewN ?_ _) | (with_reducible refine Kd.C_drew ?_) | exact HR232.out)) hb); have n3_ := Aside0.mk (below_step (by repeat (first | (with_reducible first | exact HB.out | apply below_alloc | apply pw_below_drewN | apply below_drew1) | exact HB.out)) hb); clear HO228; clear HR232; clear HB; have HO228 := n0_; have HO237 := n1_; have HR232 := n2_; have HB := n3_; clear n0_ n1_ n2_ n3_; (try clear hb); (try clear hb2); (try clear hk); (try clear hi); (try clear ho0); obtain ⟨Ao26, co26, eo26⟩ := Kd.R_slice HO237.out; subst eo26; have q25 : ((l1.length : Int) : Int) ≤ ((t235.length : Int) : Int) := of_decide_eq_true (by first | (with_reducible assumption) | assumption); obtain ⟨i025, hi025, _, hsz25, _⟩ := info_parts info33; have hroom25 : t235.length ≤ co26 := (Kd.R_reads' HO237.out).2.1; have hC25 : Kd.C k33 _ Ao26 t235.length t235 := (Kd.R_reads' HO237.out).2.2; have hcut25 := cut_to (P := Tryd.prog) 22 33 .i64 Tryd.underlying22 hi025 Ao26 t235.length co26 (l1.length : Int) (of_decide_eq_true (by first | (with_reducible assumption) | assumption)) q25 hroom25; have hr25 := Kd.C_take (m := ((l1.length : Int) : Int).toNat) hC25 (by omega); have hy25 : y238.length = ((l1.length : Int) : Int).toNat := (by rw [Ny238.out, List.length_take]; omega); rw [← Ny238.out] at hr25; rw [← hy25] at hcut25; have HR241 := Aside0.mk hr25; have HC241 := Aside0.mk (show y238.length ≤ co26 from by omega); clear hr25 hC25 hroom25 hi025 hsz25; have KY25 := Aside0.mk hy25; clear hy25; have KL25 := Aside0.mk (show ((l1.length : Int) : Int).toNat ≤ t235.length from by omega); replace q25 := eq_true q25) | ((with_reducible refine gate_callee (f := 9) rfl ?_); refine goesL_ (some 35) rfl rfl Tryd.func9 (by kernel_rfl) rfl #[.slice Ao26 y238.length co26] rfl (by (try simp only [List.map_toArray, List.map_cons, List.map_nil]); first | done | rfl | (simp only [List.length_drop, List.length_take]; rfl)) ?_; (with_reducible refine (bits_Key.calls kj2 _ _ y238 t242 t243 _ ?side1 ?side2 A18.out (by first | exact hT | exact hT.drewN _ | exact Tab.below hT (by repeat (first | (with_reducible first | exact HB.out | apply below_alloc | apply pw_below_drewN | apply below_drew1) | exact HB.out)))).mono ?_); (case side1 => repeat (first | exact (by repeat (first | (with_reducible exact HR241.out) | (with_reducible refine Kd.C_alloc ?_ _) | (with_reducible refine Kd.C_drewN ?_ _) | (with_reducible refine Kd.C_drew ?_) | exact HR241.out)) | (with_reducible refine Kd.C_alloc ?_ _) | (with_reducible refine Kd.C_drewN ?_ _) | (with_reducible refine Kd.C_drew ?_))); (case side2 => exact HC241.out); rintro e w27 ⟨rfl, hb⟩; refine ⟨_, rfl, ?_⟩; have n0_ := Aside0.mk (Kd.R_below (by (with_reducible repeat (first | apply Kd.R_alloc | apply Kd.R_drewN | apply Kd.R_drew)); exact HO228.out) hb); have n1_ := Aside0.mk (Kd.R_below (by (with_reducible repeat (first | apply Kd.R_alloc | apply Kd.R_drewN | apply Kd.R_drew)); exact HO237.out) hb); have n2_ := Aside0.mk (Kd.C_below (by repeat (first | (with_reducible exact HR232.out) | (with_reducible refine Kd.C_alloc ?_ _) | (with_reducible refine Kd.C_drewN ?_ _) | (with_reducible refine Kd.C_drew ?_) | exact HR232.out)) hb); have n3_ := Aside0.mk (Kd.C_below (by repeat (first | (with_reducible exact HR241.out) | (with_reducible refine Kd.C_alloc ?_ _) | (with_reducible refine Kd.C_drewN ?_ _) | (with_reducible refine Kd.C_drew ?_) | exact HR241.out)) hb); have n4_ := Aside0.mk (below_step (by repeat (first | (with_reducible first | exact HB.out | apply below_alloc | apply pw_below_drewN | apply below_drew1) | exact HB.out)) hb); clear HO228; clear HO237; clear HR232; clear HR241; clear HB; have HO228 := n0_; have HO237 := n1_; have HR232 := n2_; have HR241 := n3_; have HB := n4_; clear n0_ n1_ n2_ n3_ n4_; (try clear hb); (try clear hb2); (try clear hk); (try clear hi)))
                (try simp only [Act.put, List.setIfInBounds_toArray, List.set_cons_zero, List.set_cons_succ])
                go_cut [45] (fun v45 wc => ∃ (kq : Nat) (x45_18 : Bool), v45 = .bool x45_18 ∧ Aside0 (stratalaw01_BitsOrder.j1 kq l0 l1 t233 t242 x45_18 = some r) ∧ Aside0 (kq ≤ kj2) ∧ Aside0 (Kd.C k33 wc Ao22 y229.length y229) ∧ Aside0 (Kd.C k33 wc Ao26 y238.length y238) ∧ Aside0 (Below w.heap.size w wc))
                case first =>
                  have H := HC19.out
                  clear HC19
                  replace H := Option.bind_eq_some_iff.mp H
                  obtain ⟨t244, A280, H⟩ := H
                  replace H : (if t244 = 0 then ((stratalaw01_num.f t243).bind fun t245 => (stratalaw01_BitsOrder.j1 kj2 l0 l1 t233 t242 (t245 != 0))) else (stratalaw01_BitsOrder.j1 kj2 l0 l1 t233 t242 true)) = some r := H
                  have A28 := Aside0.mk A280
                  clear A280
                  by_cases c29 : t244 = 0
                  · rw [if_pos c29] at H
                    have c29b0 : (t244 == 0) = true := beq_iff_eq.mpr c29
                    have c29b1 : (t244 != 0) = false := bne_eq_false_iff_eq.mpr c29
                    clear c29
                    (first | rw [c29b0] | (simp only [i64_w, i32_w]; rw [c29b0]) | skip)
                    replace H := Option.bind_eq_some_iff.mp H
                    obtain ⟨t245, A300, H⟩ := H
                    replace H : (stratalaw01_BitsOrder.j1 kj2 l0 l1 t233 t242 (t245 != 0)) = some r := H
                    have A30 := Aside0.mk A300
                    clear A300
                    have H' := Aside0.mk H
                    clear H
                    go_wp2_with (first | ((with_reducible refine gate_callee (f := 11) rfl ?_); refine goesL_ (some 39) rfl rfl Tryd.func11 (by kernel_rfl) rfl #[.int .i64 t234] rfl (by (try simp only [List.map_toArray, List.map_cons, List.map_nil]); first | done | rfl | (simp only [List.length_drop, List.length_take]; rfl)) ?_; (with_reducible refine (stratalaw01_num.calls t234 t244 _ A28.out).mono ?_); rintro e w' ⟨rfl, ⟨nd, rfl⟩⟩; refine ⟨_, rfl, ?_⟩) | (go_at_call 11; (with_reducible refine (stratalaw01_num.calls t243 t245 _ A30.out).mono ?_); rintro e w' ⟨rfl, ⟨nd, rfl⟩⟩))
                    go_meet
                    case rel => exact ⟨_, ((t245 != 0)), (by first | rfl | (simp; done) | (simp [*]; done)), H', ⟨by have := HJ2.out; first | omega | exact Nat.le_refl _⟩, ⟨by repeat (first | (with_reducible exact HR232.out) | (with_reducible refine Kd.C_alloc ?_ _) | (with_reducible refine Kd.C_drewN ?_ _) | (with_reducible refine Kd.C_drew ?_) | exact HR232.out)⟩, ⟨by repeat (first | (with_reducible exact HR241.out) | (with_reducible refine Kd.C_alloc ?_ _) | (with_reducible refine Kd.C_drewN ?_ _) | (with_reducible refine Kd.C_drew ?_) | exact HR241.out)⟩, ⟨by repeat (first | (with_reducible first | exact HB.out | apply below_alloc | apply pw_below_drewN | apply below_drew1) | exact HB.out)⟩⟩
                  · rw [if_neg c29] at H
                    have c29b0 : (t244 == 0) = false := beq_eq_false_iff_ne.mpr c29
                    have c29b1 : (t244 != 0) = true := bne_iff_ne.mpr c29
                    (first | rw [c29b0] | (simp only [i64_w, i32_w]; rw [c29b0]) | skip)
                    have H' := Aside0.mk H
                    clear H
                    go_wp2_with (first | ((with_reducible refine gate_callee (f := 11) rfl ?_); refine goesL_ (some 39) rfl rfl Tryd.func11 (by kernel_rfl) rfl #[.int .i64 t234] rfl (by (try simp only [List.map_toArray, List.map_cons, List.map_nil]); first | done | rfl | (simp only [List.length_drop, List.length_take]; rfl)) ?_; (with_reducible refine (stratalaw01_num.calls t234 t244 _ A28.out).mono ?_); rintro e w' ⟨rfl, ⟨nd, rfl⟩⟩; refine ⟨_, rfl, ?_⟩))
                    go_meet
                    case rel => exact ⟨_, (true), (by first | rfl | (simp; done) | (simp [*]; done)), H', ⟨by have := HJ2.out; first | omega | exact Nat.le_refl _⟩, ⟨by repeat (first | (with_reducible exact HR232.out) | (with_reducible refine Kd.C_alloc ?_ _) | (with_reducible refine Kd.C_drewN ?_ _) | (with_reducible refine Kd.C_drew ?_) | exact HR232.out)⟩, ⟨by repeat (first | (with_reducible exact HR241.out) | (with_reducible refine Kd.C_alloc ?_ _) | (with_reducible refine Kd.C_drewN ?_ _) | (with_reducible refine Kd.C_drew ?_) | exact HR241.out)⟩, ⟨by repeat (first | (with_reducible first | exact HB.out | apply below_alloc | apply pw_below_drewN | apply below_drew1) | exact HB.out)⟩⟩
                case rest =>
                  clear HC19
                  try clear c1
                  try clear c2
                  try clear p2
                  try clear q2
                  try clear c4
                  try clear c5
                  try clear c8
                  try clear c9
                  try clear c10
                  try clear c11
                  try clear c12
                  try clear c12b0
                  try clear c12b1
                  try clear c13
                  try clear c13b0
                  try clear c13b1
                  try clear c15
                  try clear c16
                  try clear c16b0
                  try clear c16b1
                  try clear c17
                  try clear c17b0
                  try clear c17b1
                  try clear q21
                  try clear q25
                  try clear c29
                  try clear c29b0
                  try clear c29b1
                  try clear p2
                  try clear q21
                  try clear q25
                  obtain ⟨kq, x45_18, rfl, HA, HJ18, HR232, HR241, HB⟩ := hcut
                  cases kq with
                  | zero => exact absurd HA.out (by simp [stratalaw01_BitsOrder.j1])
                  | succ kj18 =>
                    have H := HA.out
                    clear HA
                    simp only [stratalaw01_BitsOrder.j1] at H
                    by_cases c31 : x45_18 = true
                    · subst c31
                      have H1 : (some false) = some r := by rw [if_pos rfl] at H; exact H
                      clear H
                      have H := H1
                      clear H1
                      obtain rfl := Option.some.inj H
                      go_wp2
                      go_ret
                      exact ⟨by first | rfl | (simp [errW_none, errW_some] <;> rfl) | (simp [*, errW_none, errW_some] <;> rfl), by repeat (first | (with_reducible first | exact HB.out | apply below_alloc | apply pw_below_drewN | apply below_drew1) | exact HB.out)⟩
                    · replace c31 := Bool.eq_false_iff.mpr c31
                      subst c31
                      have H1 : ((stratalaw01_ahead.f kj18 l0 l1).bind fun bt246 => (if ((Op.bytesLess t233.toList t242.toList) != bt246.1) = true then (stratalaw01_BitsOrder.j2 kj18 l0 l1 t233 t242 bt246.1 bt246.2 true) else ((stratalaw01_same.f kj18 l0 l1).bind fun t248 => (stratalaw01_BitsOrder.j2 kj18 l0 l1 t233 t242 bt246.1 bt246.2 ((t233.toList == t242.toList) != t248))))) = some r := by rw [if_neg (show ¬ (false = true) by decide)] at H; exact H
                      clear H
                      have H := H1
                      clear H1
                      replace H := Option.bind_eq_some_iff.mp H
                      obtain ⟨⟨t246, t247⟩, A320, H⟩ := H
                      replace H : (if ((Op.bytesLess t233.toList t242.toList) != t246) = true then (stratalaw01_BitsOrder.j2 kj18 l0 l1 t233 t242 t246 t247 true) else ((stratalaw01_same.f kj18 l0 l1).bind fun t248 => (stratalaw01_BitsOrder.j2 kj18 l0 l1 t233 t242 t246 t247 ((t233.toList == t242.toList) != t248)))) = some r := H
                      have A32 := Aside0.mk A320
                      clear A320
                      have HC33 := Aside0.mk H
                      clear H
                      go_upto_region 8 with (first | ((with_reducible refine gate_callee (f := 16) rfl ?_); refine goesL_ (some 49) rfl rfl Tryd.func16 (by kernel_rfl) rfl #[.slice A0 l0.length c0, .slice A1 l1.length c1] rfl (by (try simp only [List.map_toArray, List.map_cons, List.map_nil]); first | done | rfl | (simp only [List.length_drop, List.length_take]; rfl)) ?_; (with_reducible refine (stratalaw01_ahead.calls kj18 _ _ l0 _ _ l1 t246 t247 _ ?side1 ?side2 ?side3 ?side4 A32.out).mono ?_); (case side1 => repeat (first | exact (Kd.C_below HR0.out HB.out) | (with_reducible refine Kd.C_alloc ?_ _) | (with_reducible refine Kd.C_drewN ?_ _) | (with_reducible refine Kd.C_drew ?_))); (case side2 => exact HC0.out); (case side3 => repeat (first | exact (Kd.C_below HR1.out HB.out) | (with_reducible refine Kd.C_alloc ?_ _) | (with_reducible refine Kd.C_drewN ?_ _) | (with_reducible refine Kd.C_drew ?_))); (case side4 => exact HC1.out); rintro e w34 ⟨rfl, hb⟩; refine ⟨_, rfl, ?_⟩; have n0_ := Aside0.mk (Kd.C_below (by repeat (first | (with_reducible exact HR232.out) | (with_reducible refine Kd.C_alloc ?_ _) | (with_reducible refine Kd.C_drewN ?_ _) | (with_reducible refine Kd.C_drew ?_) | exact HR232.out)) hb); have n1_ := Aside0.mk (Kd.C_below (by repeat (first | (with_reducible exact HR241.out) | (with_reducible refine Kd.C_alloc ?_ _) | (with_reducible refine Kd.C_drewN ?_ _) | (with_reducible refine Kd.C_drew ?_) | exact HR241.out)) hb); have n2_ := Aside0.mk (below_step (by repeat (first | (with_reducible first | exact HB.out | apply below_alloc | apply pw_below_drewN | apply below_drew1) | exact HB.out)) hb); clear HR232; clear HR241; clear HB; have HR232 := n0_; have HR241 := n1_; have HB := n2_; clear n0_ n1_ n2_; (try clear hb); (try clear hb2); (try clear hk); (try clear hi)))
                      (try simp only [Act.put, List.setIfInBounds_toArray, List.set_cons_zero, List.set_cons_succ])
                      go_cut [65] (fun v65 wc => ∃ (kq : Nat) (x65_32 : Bool), v65 = .bool x65_32 ∧ Aside0 (stratalaw01_BitsOrder.j2 kq l0 l1 t233 t242 t246 t247 x65_32 = some r) ∧ Aside0 (kq ≤ kj18) ∧ Aside0 (Below w.heap.size w wc))
                      case first =>
                        have H := HC33.out
                        clear HC33
                        by_cases c35 : ((Op.bytesLess t233.toList t242.toList) != t246) = true
                        · rw [if_pos c35] at H
                          have c35b0 : ((Op.bytesLess t233.toList t242.toList) != t246) = true := c35
                          (try (have c35b1 : decide ((Op.bytesLess t233.toList t242.toList) = t246) = false := by simpa using c35))
                          (try (have c35b2 : ((Op.bytesLess t233.toList t242.toList) == t246) = false := by simpa using c35))
                          (try (have c35b3 : ¬ ((Op.bytesLess t233.toList t242.toList) = t246) := by simpa using c35))
                          clear c35
                          (first | rw [c35b0] | (simp only [i64_w, i32_w]; rw [c35b0]) | skip)
                          have H' := Aside0.mk H
                          clear H
                          go_wp2
                          go_meet
                          case rel => exact ⟨_, (true), (by first | rfl | (simp; done) | (simp [*]; done)), H', ⟨by have := HJ2.out; have := HJ18.out; first | omega | exact Nat.le_refl _⟩, ⟨by repeat (first | (with_reducible first | exact HB.out | apply below_alloc | apply pw_below_drewN | apply below_drew1) | exact HB.out)⟩⟩
                        · rw [if_neg c35] at H
                          have c35b0 : ((Op.bytesLess t233.toList t242.toList) != t246) = false := by simpa using c35
                          (try (have c35b1 : decide ((Op.bytesLess t233.toList t242.toList) = t246) = true := by simpa using c35))
                          (try (have c35b2 : ((Op.bytesLess t233.toList t242.toList) == t246) = true := by simpa using c35))
                          clear c35
                          (first | rw [c35b0] | (simp only [i64_w, i32_w]; rw [c35b0]) | skip)
                          replace H := Option.bind_eq_some_iff.mp H
                          obtain ⟨t248, A360, H⟩ := H
                          replace H : (stratalaw01_BitsOrder.j2 kj18 l0 l1 t233 t242 t246 t247 ((t233.toList == t242.toList) != t248)) = some r := H
                          have A36 := Aside0.mk A360
                          clear A360
                          have H' := Aside0.mk H
                          clear H
                          go_wp2_with (first | (go_at_call 14; (with_reducible refine (stratalaw01_same.calls kj18 _ _ l0 _ _ l1 t248 _ ?side1 ?side2 ?side3 ?side4 A36.out).mono ?_); (case side1 => repeat (first | exact (Kd.C_below HR0.out HB.out) | (with_reducible refine Kd.C_alloc ?_ _) | (with_reducible refine Kd.C_drewN ?_ _) | (with_reducible refine Kd.C_drew ?_))); (case side2 => exact HC0.out); (case side3 => repeat (first | exact (Kd.C_below HR1.out HB.out) | (with_reducible refine Kd.C_alloc ?_ _) | (with_reducible refine Kd.C_drewN ?_ _) | (with_reducible refine Kd.C_drew ?_))); (case side4 => exact HC1.out); rintro e w' ⟨rfl, ⟨nd, rfl⟩⟩))
                          go_meet
                          case rel => exact ⟨_, (((t233.toList == t242.toList) != t248)), (by first | rfl | (simp; done) | (simp [*]; done)), H', ⟨by have := HJ2.out; have := HJ18.out; first | omega | exact Nat.le_refl _⟩, ⟨by repeat (first | (with_reducible first | exact HB.out | apply below_alloc | apply pw_below_drewN | apply below_drew1) | exact HB.out)⟩⟩
                      case rest =>
                        clear HC33
                        try clear c1
                        try clear c2
                        try clear p2
                        try clear q2
                        try clear c3
                        try clear c4
                        try clear c5
                        try clear c8
                        try clear c9
                        try clear c10
                        try clear c11
                        try clear c12
                        try clear c12b0
                        try clear c12b1
                        try clear c13
                        try clear c13b0
                        try clear c13b1
                        try clear c15
                        try clear c16
                        try clear c16b0
                        try clear c16b1
                        try clear c17
                        try clear c17b0
                        try clear c17b1
                        try clear q21
                        try clear q25
                        try clear c29
                        try clear c29b0
                        try clear c29b1
                        try clear c31
                        try clear c35
                        try clear c35b0
                        try clear c35b1
                        try clear c35b2
                        try clear p2
                        try clear q2
                        try clear q21
                        try clear q25
                        obtain ⟨kq, x65_32, rfl, HA, HJ32, HB⟩ := hcut
                        cases kq with
                        | zero => exact absurd HA.out (by simp [stratalaw01_BitsOrder.j2])
                        | succ kj32 =>
                          have H := HA.out
                          clear HA
                          simp only [stratalaw01_BitsOrder.j2] at H
                          by_cases c37 : x65_32 = true
                          · subst c37
                            have H1 : (some false) = some r := by rw [if_pos rfl] at H; exact H
                            clear H
                            have H := H1
                            clear H1
                            obtain rfl := Option.some.inj H
                            go_wp2
                            go_ret
                            exact ⟨by first | rfl | (simp [errW_none, errW_some] <;> rfl) | (simp [*, errW_none, errW_some] <;> rfl), by repeat (first | (with_reducible first | exact HB.out | apply below_alloc | apply pw_below_drewN | apply below_drew1) | exact HB.out)⟩
                          · replace c37 := Bool.eq_false_iff.mpr c37
                            subst c37
                            have H1 : (if (t233.size : Int) ≤ (t242.size : Int) then (if 0 ≤ (t233.size : Int) then (stratalaw01_BitsOrder.j3 kj32 l0 l1 t246 (((t242.extract 0 ((t233.size : Int) : Int).toNat).toList == t233.toList) != t247)) else (none)) else (stratalaw01_BitsOrder.j3 kj32 l0 l1 t246 (false != t247))) = some r := by rw [if_neg (show ¬ (false = true) by decide)] at H; exact H
                            clear H
                            have H := H1
                            clear H1
                            have HC38 := Aside0.mk H
                            clear H
                            go_upto_region 10 with (fail)
                            go_cut [80] (fun v80 wc => ∃ (kq : Nat) (x80_37 : Bool), v80 = .bool x80_37 ∧ Aside0 (stratalaw01_BitsOrder.j3 kq l0 l1 t246 x80_37 = some r) ∧ Aside0 (kq ≤ kj32) ∧ Aside0 (Below w.heap.size w wc))
                            case first =>
                              have H := HC38.out
                              clear HC38
                              by_cases c39 : (t233.size : Int) ≤ (t242.size : Int)
                              · rw [if_pos c39] at H
                                have c39b0 : decide ((t233.size : Int) ≤ (t242.size : Int)) = true := decide_eq_true c39
                                have c39b1 : decide (t233.size ≤ t242.size) = true := decide_eq_true (Int.ofNat_le.mp c39)
                                clear c39
                                (first | rw [c39b0] | (simp only [i64_w, i32_w]; rw [c39b0]) | skip)
                                by_cases c40 : 0 ≤ (t233.size : Int)
                                · rw [if_pos c40] at H
                                  have c40b0 := eq_true c40
                                  have c40b1 : decide (0 ≤ (t233.size : Int)) = true := decide_eq_true c40
                                  clear c40
                                  have c41b0 := eq_true (of_decide_eq_true (by first | (with_reducible assumption) | assumption) : (t233.size : Int) ≤ (t242.size : Int))
                                  have H' := Aside0.mk H
                                  clear H
                                  go_wp2
                                  go_meet
                                  case rel => exact ⟨_, ((((t242.extract 0 ((t233.size : Int) : Int).toNat).toList == t233.toList) != t247)), (by first | rfl | (simp; done) | (simp [*]; done)), H', ⟨by have := HJ2.out; have := HJ18.out; have := HJ32.out; first | omega | exact Nat.le_refl _⟩, ⟨by repeat (first | (with_reducible first | exact HB.out | apply below_alloc | apply pw_below_drewN | apply below_drew1) | exact HB.out)⟩⟩
                                · rw [if_neg c40] at H
                                  exact absurd H (by simp)
                              · rw [if_neg c39] at H
                                have c39b0 : decide ((t233.size : Int) ≤ (t242.size : Int)) = false := decide_eq_false c39
                                have c39b1 : decide (t233.size ≤ t242.size) = false := decide_eq_false (fun h => c39 (Int.ofNat_le.mpr h))
                                clear c39
                                (first | rw [c39b0] | (simp only [i64_w, i32_w]; rw [c39b0]) | skip)
                                have H' := Aside0.mk H
                                clear H
                                go_wp2
                                go_meet
                                case rel => exact ⟨_, ((false != t247)), (by first | rfl | (simp; done) | (simp [*]; done)), H', ⟨by have := HJ2.out; have := HJ18.out; have := HJ32.out; first | omega | exact Nat.le_refl _⟩, ⟨by repeat (first | (with_reducible first | exact HB.out | apply below_alloc | apply pw_below_drewN | apply below_drew1) | exact HB.out)⟩⟩
                            case rest =>
                              clear HC38
                              try clear c1
                              try clear c2
                              try clear p2
                              try clear q2
                              try clear c3
                              try clear c4
                              try clear c5
                              try clear c8
                              try clear c9
                              try clear c10
                              try clear c11
                              try clear c12
                              try clear c12b0
                              try clear c12b1
                              try clear c13
                              try clear c13b0
                              try clear c13b1
                              try clear c15
                              try clear c16
                              try clear c16b0
                              try clear c16b1
                              try clear c17
                              try clear c17b0
                              try clear c17b1
                              try clear q21
                              try clear q25
                              try clear c29
                              try clear c29b0
                              try clear c29b1
                              try clear c31
                              try clear c35
                              try clear c35b0
                              try clear c35b1
                              try clear c35b2
                              try clear c37
                              try clear c39
                              try clear c39b0
                              try clear c39b1
                              try clear c40
                              try clear c40b0
                              try clear c40b1
                              try clear c41
                              try clear c41b0
                              try clear p2
                              try clear q2
                              try clear q21
                              try clear q25
                              obtain ⟨kq, x80_37, rfl, HA, HJ37, HB⟩ := hcut
                              cases kq with
                              | zero => exact absurd HA.out (by simp [stratalaw01_BitsOrder.j3])
                              | succ kj37 =>
                                have H := HA.out
                                clear HA
                                simp only [stratalaw01_BitsOrder.j3] at H
                                by_cases c42 : x80_37 = true
                                · subst c42
                                  have H1 : (some false) = some r := by rw [if_pos rfl] at H; exact H
                                  clear H
                                  have H := H1
                                  clear H1
                                  obtain rfl := Option.some.inj H
                                  go_wp2
                                  go_ret
                                  exact ⟨by first | rfl | (simp [errW_none, errW_some] <;> rfl) | (simp [*, errW_none, errW_some] <;> rfl), by repeat (first | (with_reducible first | exact HB.out | apply below_alloc | apply pw_below_drewN | apply below_drew1) | exact HB.out)⟩
                                · replace c42 := Bool.eq_false_iff.mpr c42
                                  subst c42
                                  have H1 : ((bits_Compare.f kj37 l0 l1).bind fun t249 => (if ((decide (t249 < 0)) == t246) = true then ((stratalaw01_same.f kj37 l0 l1).bind fun t250 => (if ((t249 == 0) == t250) = true then ((bits_Compare.f kj37 l1 l0).bind fun t251 => (some (t249 == (wrap64 (-t251))))) else (some false))) else (some false))) = some r := by rw [if_neg (show ¬ (false = true) by decide)] at H; exact H
                                  clear H
                                  have H := H1
                                  clear H1
                                  replace H := Option.bind_eq_some_iff.mp H
                                  obtain ⟨t249, A430, H⟩ := H
                                  replace H : (if ((decide (t249 < 0)) == t246) = true then ((stratalaw01_same.f kj37 l0 l1).bind fun t250 => (if ((t249 == 0) == t250) = true then ((bits_Compare.f kj37 l1 l0).bind fun t251 => (some (t249 == (wrap64 (-t251))))) else (some false))) else (some false)) = some r := H
                                  have A43 := Aside0.mk A430
                                  clear A430
                                  by_cases c44 : ((decide (t249 < 0)) == t246) = true
                                  · rw [if_pos c44] at H
                                    have c44b0 : ((decide (t249 < 0)) == t246) = true := c44
                                    (try (have c44b1 : decide ((decide (t249 < 0)) = t246) = true := by simpa using c44))
                                    (try (have c44b2 : ((decide (t249 < 0)) == t246) = true := by simpa using c44))
                                    clear c44
                                    replace H := Option.bind_eq_some_iff.mp H
                                    obtain ⟨t250, A450, H⟩ := H
                                    replace H : (if ((t249 == 0) == t250) = true then ((bits_Compare.f kj37 l1 l0).bind fun t251 => (some (t249 == (wrap64 (-t251))))) else (some false)) = some r := H
                                    have A45 := Aside0.mk A450
                                    clear A450
                                    by_cases c46 : ((t249 == 0) == t250) = true
                                    · rw [if_pos c46] at H
                                      have c46b0 : ((t249 == 0) == t250) = true := c46
                                      (try (have c46b1 : decide ((t249 == 0) = t250) = true := by simpa using c46))
                                      (try (have c46b2 : ((t249 == 0) == t250) = true := by simpa using c46))
                                      clear c46
                                      replace H := Option.bind_eq_some_iff.mp H
                                      obtain ⟨t251, A470, H⟩ := H
                                      replace H : (some (t249 == (wrap64 (-t251)))) = some r := H
                                      have A47 := Aside0.mk A470
                                      clear A470
                                      obtain rfl := Option.some.inj H
                                      go_wp2_with (first | ((with_reducible refine gate_callee (f := 17) rfl ?_); refine goesL_ (some 83) rfl rfl Tryd.func17 (by kernel_rfl) rfl #[.slice A0 l0.length c0, .slice A1 l1.length c1] rfl (by (try simp only [List.map_toArray, List.map_cons, List.map_nil]); first | done | rfl | (simp only [List.length_drop, List.length_take]; rfl)) ?_; (with_reducible refine (bits_Compare.calls kj37 _ _ l0 _ _ l1 t249 _ ?side1 ?side2 ?side3 ?side4 A43.out).mono ?_); (case side1 => repeat (first | exact (Kd.C_below HR0.out HB.out) | (with_reducible refine Kd.C_alloc ?_ _) | (with_reducible refine Kd.C_drewN ?_ _) | (with_reducible refine Kd.C_drew ?_))); (case side2 => exact HC0.out); (case side3 => repeat (first | exact (Kd.C_below HR1.out HB.out) | (with_reducible refine Kd.C_alloc ?_ _) | (with_reducible refine Kd.C_drewN ?_ _) | (with_reducible refine Kd.C_drew ?_))); (case side4 => exact HC1.out); rintro e w48 ⟨rfl, hb⟩; refine ⟨_, rfl, ?_⟩; have n2_ := Aside0.mk (below_step (by repeat (first | (with_reducible first | exact HB.out | apply below_alloc | apply pw_below_drewN | apply below_drew1) | exact HB.out)) hb); clear HB; have HB := n2_; clear n2_; (try clear hb); (try clear hb2); (try clear hk); (try clear hi)) | (go_at_call 14; (with_reducible refine (stratalaw01_same.calls kj37 _ _ l0 _ _ l1 t250 _ ?side1 ?side2 ?side3 ?side4 A45.out).mono ?_); (case side1 => repeat (first | exact (Kd.C_below HR0.out HB.out) | (with_reducible refine Kd.C_alloc ?_ _) | (with_reducible refine Kd.C_drewN ?_ _) | (with_reducible refine Kd.C_drew ?_))); (case side2 => exact HC0.out); (case side3 => repeat (first | exact (Kd.C_below HR1.out HB.out) | (with_reducible refine Kd.C_alloc ?_ _) | (with_reducible refine Kd.C_drewN ?_ _) | (with_reducible refine Kd.C_drew ?_))); (case side4 => exact HC1.out); rintro e w' ⟨rfl, ⟨nd, rfl⟩⟩) | (go_at_call 17; (with_reducible refine (bits_Compare.calls kj37 _ _ l1 _ _ l0 t251 _ ?side1 ?side2 ?side3 ?side4 A47.out).mono ?_); (case side1 => repeat (first | exact (Kd.C_below HR1.out (by repeat (first | (with_reducible first | exact HB.out | apply below_alloc | apply pw_below_drewN | apply below_drew1) | exact HB.out))) | (with_reducible refine Kd.C_alloc ?_ _) | (with_reducible refine Kd.C_drewN ?_ _) | (with_reducible refine Kd.C_drew ?_))); (case side2 => exact HC1.out); (case side3 => repeat (first | exact (Kd.C_below HR0.out (by repeat (first | (with_reducible first | exact HB.out | apply below_alloc | apply pw_below_drewN | apply below_drew1) | exact HB.out))) | (with_reducible refine Kd.C_alloc ?_ _) | (with_reducible refine Kd.C_drewN ?_ _) | (with_reducible refine Kd.C_drew ?_))); (case side4 => exact HC0.out); rintro e w49 ⟨rfl, hb⟩; have n2_ := Aside0.mk (below_step (by repeat (first | (with_reducible first | exact HB.out | apply below_alloc | apply pw_below_drewN | apply below_drew1) | exact HB.out)) hb); clear HB; have HB := n2_; clear n2_; (try clear hb); (try clear hb2); (try clear hk); (try clear hi)))
                                      go_ret
                                      exact ⟨by first | rfl | (simp [errW_none, errW_some] <;> rfl) | (simp [*, errW_none, errW_some] <;> rfl), by repeat (first | (with_reducible first | exact HB.out | apply below_alloc | apply pw_below_drewN | apply below_drew1) | exact HB.out)⟩
                                    · rw [if_neg c46] at H
                                      have c46b0 : ((t249 == 0) == t250) = false := by simpa using c46
                                      (try (have c46b1 : decide ((t249 == 0) = t250) = false := by simpa using c46))
                                      (try (have c46b2 : ((t249 == 0) == t250) = false := by simpa using c46))
                                      (try (have c46b3 : ¬ ((t249 == 0) = t250) := by simpa using c46))
                                      clear c46
                                      obtain rfl := Option.some.inj H
                                      go_wp2_with (first | ((with_reducible refine gate_callee (f := 17) rfl ?_); refine goesL_ (some 83) rfl rfl Tryd.func17 (by kernel_rfl) rfl #[.slice A0 l0.length c0, .slice A1 l1.length c1] rfl (by (try simp only [List.map_toArray, List.map_cons, List.map_nil]); first | done | rfl | (simp only [List.length_drop, List.length_take]; rfl)) ?_; (with_reducible refine (bits_Compare.calls kj37 _ _ l0 _ _ l1 t249 _ ?side1 ?side2 ?side3 ?side4 A43.out).mono ?_); (case side1 => repeat (first | exact (Kd.C_below HR0.out HB.out) | (with_reducible refine Kd.C_alloc ?_ _) | (with_reducible refine Kd.C_drewN ?_ _) | (with_reducible refine Kd.C_drew ?_))); (case side2 => exact HC0.out); (case side3 => repeat (first | exact (Kd.C_below HR1.out HB.out) | (with_reducible refine Kd.C_alloc ?_ _) | (with_reducible refine Kd.C_drewN ?_ _) | (with_reducible refine Kd.C_drew ?_))); (case side4 => exact HC1.out); rintro e w50 ⟨rfl, hb⟩; refine ⟨_, rfl, ?_⟩; have n2_ := Aside0.mk (below_step (by repeat (first | (with_reducible first | exact HB.out | apply below_alloc | apply pw_below_drewN | apply below_drew1) | exact HB.out)) hb); clear HB; have HB := n2_; clear n2_; (try clear hb); (try clear hb2); (try clear hk); (try clear hi)) | (go_at_call 14; (with_reducible refine (stratalaw01_same.calls kj37 _ _ l0 _ _ l1 t250 _ ?side1 ?side2 ?side3 ?side4 A45.out).mono ?_); (case side1 => repeat (first | exact (Kd.C_below HR0.out HB.out) | (with_reducible refine Kd.C_alloc ?_ _) | (with_reducible refine Kd.C_drewN ?_ _) | (with_reducible refine Kd.C_drew ?_))); (case side2 => exact HC0.out); (case side3 => repeat (first | exact (Kd.C_below HR1.out HB.out) | (with_reducible refine Kd.C_alloc ?_ _) | (with_reducible refine Kd.C_drewN ?_ _) | (with_reducible refine Kd.C_drew ?_))); (case side4 => exact HC1.out); rintro e w' ⟨rfl, ⟨nd, rfl⟩⟩))
                                      go_ret
                                      exact ⟨by first | rfl | (simp [errW_none, errW_some] <;> rfl) | (simp [*, errW_none, errW_some] <;> rfl), by repeat (first | (with_reducible first | exact HB.out | apply below_alloc | apply pw_below_drewN | apply below_drew1) | exact HB.out)⟩
                                  · rw [if_neg c44] at H
                                    have c44b0 : ((decide (t249 < 0)) == t246) = false := by simpa using c44
                                    (try (have c44b1 : decide ((decide (t249 < 0)) = t246) = false := by simpa using c44))
                                    (try (have c44b2 : ((decide (t249 < 0)) == t246) = false := by simpa using c44))
                                    (try (have c44b3 : ¬ ((decide (t249 < 0)) = t246) := by simpa using c44))
                                    clear c44
                                    obtain rfl := Option.some.inj H
                                    go_wp2_with (first | ((with_reducible refine gate_callee (f := 17) rfl ?_); refine goesL_ (some 83) rfl rfl Tryd.func17 (by kernel_rfl) rfl #[.slice A0 l0.length c0, .slice A1 l1.length c1] rfl (by (try simp only [List.map_toArray, List.map_cons, List.map_nil]); first | done | rfl | (simp only [List.length_drop, List.length_take]; rfl)) ?_; (with_reducible refine (bits_Compare.calls kj37 _ _ l0 _ _ l1 t249 _ ?side1 ?side2 ?side3 ?side4 A43.out).mono ?_); (case side1 => repeat (first | exact (Kd.C_below HR0.out HB.out) | (with_reducible refine Kd.C_alloc ?_ _) | (with_reducible refine Kd.C_drewN ?_ _) | (with_reducible refine Kd.C_drew ?_))); (case side2 => exact HC0.out); (case side3 => repeat (first | exact (Kd.C_below HR1.out HB.out) | (with_reducible refine Kd.C_alloc ?_ _) | (with_reducible refine Kd.C_drewN ?_ _) | (with_reducible refine Kd.C_drew ?_))); (case side4 => exact HC1.out); rintro e w51 ⟨rfl, hb⟩; refine ⟨_, rfl, ?_⟩; have n2_ := Aside0.mk (below_step (by repeat (first | (with_reducible first | exact HB.out | apply below_alloc | apply pw_below_drewN | apply below_drew1) | exact HB.out)) hb); clear HB; have HB := n2_; clear n2_; (try clear hb); (try clear hb2); (try clear hk); (try clear hi)))
                                    go_ret
                                    exact ⟨by first | rfl | (simp [errW_none, errW_some] <;> rfl) | (simp [*, errW_none, errW_some] <;> rfl), by repeat (first | (with_reducible first | exact HB.out | apply below_alloc | apply pw_below_drewN | apply below_drew1) | exact HB.out)⟩
              · rw [if_neg c17] at H
                exact absurd H (by simp)
            · rw [if_neg c16] at H
              exact absurd H (by simp)
          · rw [if_neg c13] at H
            exact absurd H (by simp)
        · rw [if_neg c12] at H
          exact absurd H (by simp)

end Go.Proofs.YtbekgkikgcmmaaaDoor.POrd
