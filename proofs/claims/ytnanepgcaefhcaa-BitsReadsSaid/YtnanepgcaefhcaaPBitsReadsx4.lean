-- PRINTED BY print.sh 35421559b90ae4d0a3588c463048766b98c2df88dd9212a6774a882060cdf62d: not written by this session
import Derived.Test.YtnanepgcaefhcaaPBitsReadsx0
import Derived.Test.YtnanepgcaefhcaaPBitsReadsx1
import Derived.Test.YtnanepgcaefhcaaPBitsReadsx2
import Derived.Test.YtnanepgcaefhcaaPBitsReadsx3
namespace Go.Proofs.Ytnanepgcaefhcaa.PBitsReads
open Go.RowKit Go.Proofs.YtnanepgcaefhcaaW.PrintWords Go.Proofs.YtnanepgcaefhcaaW.PrintLast Go.Proofs.YtnanepgcaefhcaaW.PrintMore
attribute [local go_sem] max2_int min2_int max_two min_two max_three min_three max_four min_four   -- for this text's walks alone
set_option linter.unusedVariables false
set_option linter.unusedSimpArgs false

/-! ### stratalaw01_BitsReads: function 11 -/
mutual
def stratalaw01_BitsReads.j0 : Nat → ByteArray → Int → Bool → Option (Bool)
  | 0, _, _, _ => none
  | k + 1, x0, x1, x44 => if x44 = true then (some false) else ((bits_ReadSvarint.f k x0 x1).bind fun bt140 => ((strataref01_ReadSvarint.f k x0 x1).bind fun bt143 => (if bt140.1 = bt143.1 then (if bt140.2.1 = bt143.2.1 then ((stratalaw01_num.f bt140.2.2).bind fun t146 => (stratalaw01_BitsReads.j1 k x0 x1 (t146 != bt143.2.2))) else (stratalaw01_BitsReads.j1 k x0 x1 true)) else (stratalaw01_BitsReads.j1 k x0 x1 true))))
def stratalaw01_BitsReads.j1 : Nat → ByteArray → Int → Bool → Option (Bool)
  | 0, _, _, _ => none
  | k + 1, x0, x1, x72 => if x72 = true then (some false) else ((bits_ReadFixed32.f k x0 x1).bind fun bt147 => ((strataref01_ReadFixed32.f k x0 x1).bind fun bt150 => (if bt147.1 = bt150.1 then (if bt147.2.1 = bt150.2.1 then ((stratalaw01_num.f bt147.2.2).bind fun t153 => (stratalaw01_BitsReads.j2 k x0 x1 (t153 != bt150.2.2))) else (stratalaw01_BitsReads.j2 k x0 x1 true)) else (stratalaw01_BitsReads.j2 k x0 x1 true))))
def stratalaw01_BitsReads.j2 : Nat → ByteArray → Int → Bool → Option (Bool)
  | 0, _, _, _ => none
  | k + 1, x0, x1, x100 => if x100 = true then (some false) else ((bits_ReadFixed64.f k x0 x1).bind fun bt154 => ((strataref01_ReadFixed64.f k x0 x1).bind fun bt157 => (if bt154.1 = bt157.1 then (if bt154.2.1 = bt157.2.1 then ((stratalaw01_num.f bt154.2.2).bind fun t160 => (stratalaw01_BitsReads.j3 k x0 x1 (t160 != bt157.2.2))) else (stratalaw01_BitsReads.j3 k x0 x1 true)) else (stratalaw01_BitsReads.j3 k x0 x1 true))))
def stratalaw01_BitsReads.j3 : Nat → ByteArray → Int → Bool → Option (Bool)
  | 0, _, _, _ => none
  | k + 1, x0, x1, x128 => if x128 = true then (some false) else ((bits_ReadBlob.f k x0 x1).bind fun bt161 => ((strataref01_ReadBlob.f k x0 x1).bind fun bt164 => (if bt161.1.toList = bt164.1.toList then (if bt161.2.1 = bt164.2.1 then ((stratalaw01_num.f bt161.2.2).bind fun t167 => (some (t167 == bt164.2.2))) else (some false)) else (some false))))
end
def stratalaw01_BitsReads.f (k : Nat) (a0 : ByteArray) (a1 : Int) : Option (Bool) := (bits_ReadUvarint.f k a0 a1).bind fun bt133 => ((strataref01_ReadUvarint.f k a0 a1).bind fun bt136 => (if bt133.1 = bt136.1 then (if bt133.2.1 = bt136.2.1 then ((stratalaw01_num.f bt133.2.2).bind fun t139 => (stratalaw01_BitsReads.j0 k a0 a1 (t139 != bt136.2.2))) else (stratalaw01_BitsReads.j0 k a0 a1 true)) else (stratalaw01_BitsReads.j0 k a0 a1 true)))
theorem stratalaw01_BitsReads.mono_l : ∀ k, (∀ y0 y1 y2, LeO (stratalaw01_BitsReads.j0 k y0 y1 y2) (stratalaw01_BitsReads.j0 (k + 1) y0 y1 y2)) ∧ (∀ y0 y1 y2, LeO (stratalaw01_BitsReads.j1 k y0 y1 y2) (stratalaw01_BitsReads.j1 (k + 1) y0 y1 y2)) ∧ (∀ y0 y1 y2, LeO (stratalaw01_BitsReads.j2 k y0 y1 y2) (stratalaw01_BitsReads.j2 (k + 1) y0 y1 y2)) ∧ (∀ y0 y1 y2, LeO (stratalaw01_BitsReads.j3 k y0 y1 y2) (stratalaw01_BitsReads.j3 (k + 1) y0 y1 y2))
  | 0 => ⟨fun _ _ _ r h => by simp [stratalaw01_BitsReads.j0] at h, fun _ _ _ r h => by simp [stratalaw01_BitsReads.j1] at h, fun _ _ _ r h => by simp [stratalaw01_BitsReads.j2] at h, fun _ _ _ r h => by simp [stratalaw01_BitsReads.j3] at h⟩
  | k + 1 => by
    obtain ⟨ih0, ih1, ih2, ih3⟩ := stratalaw01_BitsReads.mono_l k
    refine ⟨?_, ?_, ?_, ?_⟩
    · intro y0 y1 y2
      unfold stratalaw01_BitsReads.j0
      repeat' first
      | (with_reducible exact ih0 _ _ _)
      | (with_reducible exact ih1 _ _ _)
      | (with_reducible exact ih2 _ _ _)
      | (with_reducible exact ih3 _ _ _)
      | (with_reducible exact bits_ReadBlob.mono _ _ _)
      | (with_reducible exact bits_ReadFixed32.mono _ _ _)
      | (with_reducible exact bits_ReadFixed64.mono _ _ _)
      | (with_reducible exact bits_ReadSvarint.mono _ _ _)
      | (with_reducible exact bits_ReadUvarint.mono _ _ _)
      | (with_reducible exact strataref01_ReadBlob.mono _ _ _)
      | (with_reducible exact strataref01_ReadFixed32.mono _ _ _)
      | (with_reducible exact strataref01_ReadFixed64.mono _ _ _)
      | (with_reducible exact strataref01_ReadSvarint.mono _ _ _)
      | (with_reducible exact strataref01_ReadUvarint.mono _ _ _)
      | (with_reducible exact LeO.refl _)
      | (with_reducible exact LeO.none _)
      | (with_reducible refine LeO.ite ?_ ?_)
      | (with_reducible refine LeO.bind ?_ (fun _ => ?_))
      | exact ih0 _ _ _
      | exact ih1 _ _ _
      | exact ih2 _ _ _
      | exact ih3 _ _ _
      | exact bits_ReadBlob.mono _ _ _
      | exact bits_ReadFixed32.mono _ _ _
      | exact bits_ReadFixed64.mono _ _ _
      | exact bits_ReadSvarint.mono _ _ _
      | exact bits_ReadUvarint.mono _ _ _
      | exact strataref01_ReadBlob.mono _ _ _
      | exact strataref01_ReadFixed32.mono _ _ _
      | exact strataref01_ReadFixed64.mono _ _ _
      | exact strataref01_ReadSvarint.mono _ _ _
      | exact strataref01_ReadUvarint.mono _ _ _
      | exact LeO.none _
      | refine LeO.ite ?_ ?_
      | refine LeO.bind ?_ (fun _ => ?_)
    · intro y0 y1 y2
      unfold stratalaw01_BitsReads.j1
      repeat' first
      | (with_reducible exact ih0 _ _ _)
      | (with_reducible exact ih1 _ _ _)
      | (with_reducible exact ih2 _ _ _)
      | (with_reducible exact ih3 _ _ _)
      | (with_reducible exact bits_ReadBlob.mono _ _ _)
      | (with_reducible exact bits_ReadFixed32.mono _ _ _)
      | (with_reducible exact bits_ReadFixed64.mono _ _ _)
      | (with_reducible exact bits_ReadSvarint.mono _ _ _)
      | (with_reducible exact bits_ReadUvarint.mono _ _ _)
      | (with_reducible exact strataref01_ReadBlob.mono _ _ _)
      | (with_reducible exact strataref01_ReadFixed32.mono _ _ _)
      | (with_reducible exact strataref01_ReadFixed64.mono _ _ _)
      | (with_reducible exact strataref01_ReadSvarint.mono _ _ _)
      | (with_reducible exact strataref01_ReadUvarint.mono _ _ _)
      | (with_reducible exact LeO.refl _)
      | (with_reducible exact LeO.none _)
      | (with_reducible refine LeO.ite ?_ ?_)
      | (with_reducible refine LeO.bind ?_ (fun _ => ?_))
      | exact ih0 _ _ _
      | exact ih1 _ _ _
      | exact ih2 _ _ _
      | exact ih3 _ _ _
      | exact bits_ReadBlob.mono _ _ _
      | exact bits_ReadFixed32.mono _ _ _
      | exact bits_ReadFixed64.mono _ _ _
      | exact bits_ReadSvarint.mono _ _ _
      | exact bits_ReadUvarint.mono _ _ _
      | exact strataref01_ReadBlob.mono _ _ _
      | exact strataref01_ReadFixed32.mono _ _ _
      | exact strataref01_ReadFixed64.mono _ _ _
      | exact strataref01_ReadSvarint.mono _ _ _
      | exact strataref01_ReadUvarint.mono _ _ _
      | exact LeO.none _
      | refine LeO.ite ?_ ?_
      | refine LeO.bind ?_ (fun _ => ?_)
    · intro y0 y1 y2
      unfold stratalaw01_BitsReads.j2
      repeat' first
      | (with_reducible exact ih0 _ _ _)
      | (with_reducible exact ih1 _ _ _)
      | (with_reducible exact ih2 _ _ _)
      | (with_reducible exact ih3 _ _ _)
      | (with_reducible exact bits_ReadBlob.mono _ _ _)
      | (with_reducible exact bits_ReadFixed32.mono _ _ _)
      | (with_reducible exact bits_ReadFixed64.mono _ _ _)
      | (with_reducible exact bits_ReadSvarint.mono _ _ _)
      | (with_reducible exact bits_ReadUvarint.mono _ _ _)
      | (with_reducible exact strataref01_ReadBlob.mono _ _ _)
      | (with_reducible exact strataref01_ReadFixed32.mono _ _ _)
      | (with_reducible exact strataref01_ReadFixed64.mono _ _ _)
      | (with_reducible exact strataref01_ReadSvarint.mono _ _ _)
      | (with_reducible exact strataref01_ReadUvarint.mono _ _ _)
      | (with_reducible exact LeO.refl _)
      | (with_reducible exact LeO.none _)
      | (with_reducible refine LeO.ite ?_ ?_)
      | (with_reducible refine LeO.bind ?_ (fun _ => ?_))
      | exact ih0 _ _ _
      | exact ih1 _ _ _
      | exact ih2 _ _ _
      | exact ih3 _ _ _
      | exact bits_ReadBlob.mono _ _ _
      | exact bits_ReadFixed32.mono _ _ _
      | exact bits_ReadFixed64.mono _ _ _
      | exact bits_ReadSvarint.mono _ _ _
      | exact bits_ReadUvarint.mono _ _ _
      | exact strataref01_ReadBlob.mono _ _ _
      | exact strataref01_ReadFixed32.mono _ _ _
      | exact strataref01_ReadFixed64.mono _ _ _
      | exact strataref01_ReadSvarint.mono _ _ _
      | exact strataref01_ReadUvarint.mono _ _ _
      | exact LeO.none _
      | refine LeO.ite ?_ ?_
      | refine LeO.bind ?_ (fun _ => ?_)
    · intro y0 y1 y2
      unfold stratalaw01_BitsReads.j3
      repeat' first
      | (with_reducible exact ih0 _ _ _)
      | (with_reducible exact ih1 _ _ _)
      | (with_reducible exact ih2 _ _ _)
      | (with_reducible exact ih3 _ _ _)
      | (with_reducible exact bits_ReadBlob.mono _ _ _)
      | (with_reducible exact bits_ReadFixed32.mono _ _ _)
      | (with_reducible exact bits_ReadFixed64.mono _ _ _)
      | (with_reducible exact bits_ReadSvarint.mono _ _ _)
      | (with_reducible exact bits_ReadUvarint.mono _ _ _)
      | (with_reducible exact strataref01_ReadBlob.mono _ _ _)
      | (with_reducible exact strataref01_ReadFixed32.mono _ _ _)
      | (with_reducible exact strataref01_ReadFixed64.mono _ _ _)
      | (with_reducible exact strataref01_ReadSvarint.mono _ _ _)
      | (with_reducible exact strataref01_ReadUvarint.mono _ _ _)
      | (with_reducible exact LeO.refl _)
      | (with_reducible exact LeO.none _)
      | (with_reducible refine LeO.ite ?_ ?_)
      | (with_reducible refine LeO.bind ?_ (fun _ => ?_))
      | exact ih0 _ _ _
      | exact ih1 _ _ _
      | exact ih2 _ _ _
      | exact ih3 _ _ _
      | exact bits_ReadBlob.mono _ _ _
      | exact bits_ReadFixed32.mono _ _ _
      | exact bits_ReadFixed64.mono _ _ _
      | exact bits_ReadSvarint.mono _ _ _
      | exact bits_ReadUvarint.mono _ _ _
      | exact strataref01_ReadBlob.mono _ _ _
      | exact strataref01_ReadFixed32.mono _ _ _
      | exact strataref01_ReadFixed64.mono _ _ _
      | exact strataref01_ReadSvarint.mono _ _ _
      | exact strataref01_ReadUvarint.mono _ _ _
      | exact LeO.none _
      | refine LeO.ite ?_ ?_
      | refine LeO.bind ?_ (fun _ => ?_)
theorem stratalaw01_BitsReads.mono : ∀ a0 a1 k, LeO (stratalaw01_BitsReads.f k a0 a1) (stratalaw01_BitsReads.f (k + 1) a0 a1) := by
  intro a0 a1 k
  obtain ⟨ih0, ih1, ih2, ih3⟩ := stratalaw01_BitsReads.mono_l k
  unfold stratalaw01_BitsReads.f
  repeat' first
      | (with_reducible exact ih0 _ _ _)
      | (with_reducible exact ih1 _ _ _)
      | (with_reducible exact ih2 _ _ _)
      | (with_reducible exact ih3 _ _ _)
      | (with_reducible exact bits_ReadBlob.mono _ _ _)
      | (with_reducible exact bits_ReadFixed32.mono _ _ _)
      | (with_reducible exact bits_ReadFixed64.mono _ _ _)
      | (with_reducible exact bits_ReadSvarint.mono _ _ _)
      | (with_reducible exact bits_ReadUvarint.mono _ _ _)
      | (with_reducible exact strataref01_ReadBlob.mono _ _ _)
      | (with_reducible exact strataref01_ReadFixed32.mono _ _ _)
      | (with_reducible exact strataref01_ReadFixed64.mono _ _ _)
      | (with_reducible exact strataref01_ReadSvarint.mono _ _ _)
      | (with_reducible exact strataref01_ReadUvarint.mono _ _ _)
      | (with_reducible exact LeO.refl _)
      | (with_reducible exact LeO.none _)
      | (with_reducible refine LeO.ite ?_ ?_)
      | (with_reducible refine LeO.bind ?_ (fun _ => ?_))
      | exact ih0 _ _ _
      | exact ih1 _ _ _
      | exact ih2 _ _ _
      | exact ih3 _ _ _
      | exact bits_ReadBlob.mono _ _ _
      | exact bits_ReadFixed32.mono _ _ _
      | exact bits_ReadFixed64.mono _ _ _
      | exact bits_ReadSvarint.mono _ _ _
      | exact bits_ReadUvarint.mono _ _ _
      | exact strataref01_ReadBlob.mono _ _ _
      | exact strataref01_ReadFixed32.mono _ _ _
      | exact strataref01_ReadFixed64.mono _ _ _
      | exact strataref01_ReadSvarint.mono _ _ _
      | exact strataref01_ReadUvarint.mono _ _ _
      | exact LeO.none _
      | refine LeO.ite ?_ ?_
      | refine LeO.bind ?_ (fun _ => ?_)
set_option maxHeartbeats 8000000 in
set_option maxRecDepth 100000 in
theorem stratalaw01_BitsReads.calls (k : Nat) (a0 : ByteArray) (a1 : Int) (r : Bool) (w : World) (h : stratalaw01_BitsReads.f k a0 a1 = some r) :
    Calls Try.prog 11 #[.string a0, .int .i64 a1] w fun e w' => e = .returned (.bool r) ∧ Drawn0 w w' := by
  have H : ((bits_ReadUvarint.f k a0 a1).bind fun bt133 => ((strataref01_ReadUvarint.f k a0 a1).bind fun bt136 => (if bt133.1 = bt136.1 then (if bt133.2.1 = bt136.2.1 then ((stratalaw01_num.f bt133.2.2).bind fun t139 => (stratalaw01_BitsReads.j0 k a0 a1 (t139 != bt136.2.2))) else (stratalaw01_BitsReads.j0 k a0 a1 true)) else (stratalaw01_BitsReads.j0 k a0 a1 true)))) = some r := h
  clear h
  replace H := Option.bind_eq_some_iff.mp H
  obtain ⟨⟨t133, t134, t135⟩, A30, H⟩ := H
  replace H : ((strataref01_ReadUvarint.f k a0 a1).bind fun bt136 => (if t133 = bt136.1 then (if t134 = bt136.2.1 then ((stratalaw01_num.f t135).bind fun t139 => (stratalaw01_BitsReads.j0 k a0 a1 (t139 != bt136.2.2))) else (stratalaw01_BitsReads.j0 k a0 a1 true)) else (stratalaw01_BitsReads.j0 k a0 a1 true))) = some r := H
  have A3 := Aside0.mk A30
  clear A30
  replace H := Option.bind_eq_some_iff.mp H
  obtain ⟨⟨t136, t137, t138⟩, A40, H⟩ := H
  replace H : (if t133 = t136 then (if t134 = t137 then ((stratalaw01_num.f t135).bind fun t139 => (stratalaw01_BitsReads.j0 k a0 a1 (t139 != t138))) else (stratalaw01_BitsReads.j0 k a0 a1 true)) else (stratalaw01_BitsReads.j0 k a0 a1 true)) = some r := H
  have A4 := Aside0.mk A40
  clear A40
  have HC5 := Aside0.mk H
  clear H
  go_enter Try.func11, Try.ntmps11
  go_upto_region 3 with (first | ((with_reducible refine gate_callee (f := 44) rfl ?_); refine goesL_ (some 20) rfl rfl Try.func44 (by kernel_rfl) rfl #[.string a0, .int .i64 a1] rfl (by (try simp only [List.map_toArray, List.map_cons, List.map_nil]); first | done | rfl | (simp only [List.length_drop, List.length_take]; rfl)) ?_; (with_reducible refine (bits_ReadUvarint.calls k a0 a1 t133 t134 t135 _ A3.out).mono ?_); rintro e w' ⟨rfl, ⟨nd, rfl⟩⟩; refine ⟨_, rfl, ?_⟩) | ((with_reducible refine gate_callee (f := 45) rfl ?_); refine goesL_ (some 27) rfl rfl Try.func45 (by kernel_rfl) rfl #[.string a0, .int .i64 a1] rfl (by (try simp only [List.map_toArray, List.map_cons, List.map_nil]); first | done | rfl | (simp only [List.length_drop, List.length_take]; rfl)) ?_; (with_reducible refine (strataref01_ReadUvarint.calls k a0 a1 t136 t137 t138 _ A4.out).mono ?_); rintro e w' ⟨rfl, ⟨nd, rfl⟩⟩; refine ⟨_, rfl, ?_⟩))
  (try simp only [Act.put, List.setIfInBounds_toArray, List.set_cons_zero, List.set_cons_succ])
  go_cut [44] (fun v44 wc => ∃ (kq : Nat) (x44_4 : Bool), v44 = .bool x44_4 ∧ Aside0 (stratalaw01_BitsReads.j0 kq a0 a1 x44_4 = some r) ∧ Aside0 (kq ≤ k) ∧ Drawn0 w wc)
  case first =>
    have H := HC5.out
    clear HC5
    by_cases c6 : t133 = t136
    · rw [if_pos c6] at H
      have c6b0 : (t133 == t136) = true := beq_iff_eq.mpr c6
      have c6b1 : (t133 != t136) = false := bne_eq_false_iff_eq.mpr c6
      clear c6
      (first | rw [c6b0] | (simp only [i64_w, i32_w]; rw [c6b0]) | skip)
      by_cases c7 : t134 = t137
      · rw [if_pos c7] at H
        have c7b0 : (t134 == t137) = true := beq_iff_eq.mpr c7
        have c7b1 : (t134 != t137) = false := bne_eq_false_iff_eq.mpr c7
        clear c7
        replace H := Option.bind_eq_some_iff.mp H
        obtain ⟨t139, A80, H⟩ := H
        replace H : (stratalaw01_BitsReads.j0 k a0 a1 (t139 != t138)) = some r := H
        have A8 := Aside0.mk A80
        clear A80
        have H' := Aside0.mk H
        clear H
        go_wp2_with (first | (go_at_call 13; (with_reducible refine (stratalaw01_num.calls t135 t139 _ A8.out).mono ?_); rintro e w' ⟨rfl, ⟨nd, rfl⟩⟩))
        go_meet
        case rel => exact ⟨_, ((t139 != t138)), (by first | rfl | (simp; done) | (simp [*]; done)), H', ⟨by first | omega | exact Nat.le_refl _⟩, by repeat (first | exact Drawn0.refl _ | apply Drawn0.step)⟩
      · rw [if_neg c7] at H
        have c7b0 : (t134 == t137) = false := beq_eq_false_iff_ne.mpr c7
        have c7b1 : (t134 != t137) = true := bne_iff_ne.mpr c7
        have H' := Aside0.mk H
        clear H
        go_wp2
        go_meet
        case rel => exact ⟨_, (true), (by first | rfl | (simp; done) | (simp [*]; done)), H', ⟨by first | omega | exact Nat.le_refl _⟩, by repeat (first | exact Drawn0.refl _ | apply Drawn0.step)⟩
    · rw [if_neg c6] at H
      have c6b0 : (t133 == t136) = false := beq_eq_false_iff_ne.mpr c6
      have c6b1 : (t133 != t136) = true := bne_iff_ne.mpr c6
      (first | rw [c6b0] | (simp only [i64_w, i32_w]; rw [c6b0]) | skip)
      have H' := Aside0.mk H
      clear H
      go_wp2
      go_meet
      case rel => exact ⟨_, (true), (by first | rfl | (simp; done) | (simp [*]; done)), H', ⟨by first | omega | exact Nat.le_refl _⟩, by repeat (first | exact Drawn0.refl _ | apply Drawn0.step)⟩
  case rest =>
    clear HC5
    try clear c1
    try clear p2
    try clear c4
    try clear c6
    try clear c6b0
    try clear c6b1
    try clear c7
    try clear c7b0
    try clear c7b1
    obtain ⟨kq, x44_4, rfl, HA, HJ4, ⟨mc4, rfl⟩⟩ := hcut
    cases kq with
    | zero => exact absurd HA.out (by simp [stratalaw01_BitsReads.j0])
    | succ kj4 =>
      have H := HA.out
      clear HA
      simp only [stratalaw01_BitsReads.j0] at H
      by_cases c9 : x44_4 = true
      · subst c9
        have H1 : (some false) = some r := by rw [if_pos rfl] at H; exact H
        clear H
        have H := H1
        clear H1
        obtain rfl := Option.some.inj H
        go_wp2
        go_ret
        exact ⟨by first | rfl | (simp; done) | (simp [*]; done), by repeat (first | exact Drawn0.refl _ | apply Drawn0.step)⟩
      · replace c9 := Bool.eq_false_iff.mpr c9
        subst c9
        have H1 : ((bits_ReadSvarint.f kj4 a0 a1).bind fun bt140 => ((strataref01_ReadSvarint.f kj4 a0 a1).bind fun bt143 => (if bt140.1 = bt143.1 then (if bt140.2.1 = bt143.2.1 then ((stratalaw01_num.f bt140.2.2).bind fun t146 => (stratalaw01_BitsReads.j1 kj4 a0 a1 (t146 != bt143.2.2))) else (stratalaw01_BitsReads.j1 kj4 a0 a1 true)) else (stratalaw01_BitsReads.j1 kj4 a0 a1 true)))) = some r := by rw [if_neg (show ¬ (false = true) by decide)] at H; exact H
        clear H
        have H := H1
        clear H1
        replace H := Option.bind_eq_some_iff.mp H
        obtain ⟨⟨t140, t141, t142⟩, A100, H⟩ := H
        replace H : ((strataref01_ReadSvarint.f kj4 a0 a1).bind fun bt143 => (if t140 = bt143.1 then (if t141 = bt143.2.1 then ((stratalaw01_num.f t142).bind fun t146 => (stratalaw01_BitsReads.j1 kj4 a0 a1 (t146 != bt143.2.2))) else (stratalaw01_BitsReads.j1 kj4 a0 a1 true)) else (stratalaw01_BitsReads.j1 kj4 a0 a1 true))) = some r := H
        have A10 := Aside0.mk A100
        clear A100
        replace H := Option.bind_eq_some_iff.mp H
        obtain ⟨⟨t143, t144, t145⟩, A110, H⟩ := H
        replace H : (if t140 = t143 then (if t141 = t144 then ((stratalaw01_num.f t142).bind fun t146 => (stratalaw01_BitsReads.j1 kj4 a0 a1 (t146 != t145))) else (stratalaw01_BitsReads.j1 kj4 a0 a1 true)) else (stratalaw01_BitsReads.j1 kj4 a0 a1 true)) = some r := H
        have A11 := Aside0.mk A110
        clear A110
        have HC12 := Aside0.mk H
        clear H
        go_upto_region 7 with (first | ((with_reducible refine gate_callee (f := 46) rfl ?_); refine goesL_ (some 48) rfl rfl Try.func46 (by kernel_rfl) rfl #[.string a0, .int .i64 a1] rfl (by (try simp only [List.map_toArray, List.map_cons, List.map_nil]); first | done | rfl | (simp only [List.length_drop, List.length_take]; rfl)) ?_; (with_reducible refine (bits_ReadSvarint.calls kj4 a0 a1 t140 t141 t142 _ A10.out).mono ?_); rintro e w' ⟨rfl, ⟨nd, rfl⟩⟩; refine ⟨_, rfl, ?_⟩) | ((with_reducible refine gate_callee (f := 47) rfl ?_); refine goesL_ (some 55) rfl rfl Try.func47 (by kernel_rfl) rfl #[.string a0, .int .i64 a1] rfl (by (try simp only [List.map_toArray, List.map_cons, List.map_nil]); first | done | rfl | (simp only [List.length_drop, List.length_take]; rfl)) ?_; (with_reducible refine (strataref01_ReadSvarint.calls kj4 a0 a1 t143 t144 t145 _ A11.out).mono ?_); rintro e w' ⟨rfl, ⟨nd, rfl⟩⟩; refine ⟨_, rfl, ?_⟩))
        (try simp only [Act.put, List.setIfInBounds_toArray, List.set_cons_zero, List.set_cons_succ])
        go_cut [72] (fun v72 wc => ∃ (kq : Nat) (x72_11 : Bool), v72 = .bool x72_11 ∧ Aside0 (stratalaw01_BitsReads.j1 kq a0 a1 x72_11 = some r) ∧ Aside0 (kq ≤ kj4) ∧ Drawn0 w wc)
        case first =>
          have H := HC12.out
          clear HC12
          by_cases c13 : t140 = t143
          · rw [if_pos c13] at H
            have c13b0 : (t140 == t143) = true := beq_iff_eq.mpr c13
            have c13b1 : (t140 != t143) = false := bne_eq_false_iff_eq.mpr c13
            clear c13
            (first | rw [c13b0] | (simp only [i64_w, i32_w]; rw [c13b0]) | skip)
            by_cases c14 : t141 = t144
            · rw [if_pos c14] at H
              have c14b0 : (t141 == t144) = true := beq_iff_eq.mpr c14
              have c14b1 : (t141 != t144) = false := bne_eq_false_iff_eq.mpr c14
              clear c14
              replace H := Option.bind_eq_some_iff.mp H
              obtain ⟨t146, A150, H⟩ := H
              replace H : (stratalaw01_BitsReads.j1 kj4 a0 a1 (t146 != t145)) = some r := H
              have A15 := Aside0.mk A150
              clear A150
              have H' := Aside0.mk H
              clear H
              go_wp2_with (first | (go_at_call 13; (with_reducible refine (stratalaw01_num.calls t142 t146 _ A15.out).mono ?_); rintro e w' ⟨rfl, ⟨nd, rfl⟩⟩))
              go_meet
              case rel => exact ⟨_, ((t146 != t145)), (by first | rfl | (simp; done) | (simp [*]; done)), H', ⟨by have := HJ4.out; first | omega | exact Nat.le_refl _⟩, by repeat (first | exact Drawn0.refl _ | apply Drawn0.step)⟩
            · rw [if_neg c14] at H
              have c14b0 : (t141 == t144) = false := beq_eq_false_iff_ne.mpr c14
              have c14b1 : (t141 != t144) = true := bne_iff_ne.mpr c14
              have H' := Aside0.mk H
              clear H
              go_wp2
              go_meet
              case rel => exact ⟨_, (true), (by first | rfl | (simp; done) | (simp [*]; done)), H', ⟨by have := HJ4.out; first | omega | exact Nat.le_refl _⟩, by repeat (first | exact Drawn0.refl _ | apply Drawn0.step)⟩
          · rw [if_neg c13] at H
            have c13b0 : (t140 == t143) = false := beq_eq_false_iff_ne.mpr c13
            have c13b1 : (t140 != t143) = true := bne_iff_ne.mpr c13
            (first | rw [c13b0] | (simp only [i64_w, i32_w]; rw [c13b0]) | skip)
            have H' := Aside0.mk H
            clear H
            go_wp2
            go_meet
            case rel => exact ⟨_, (true), (by first | rfl | (simp; done) | (simp [*]; done)), H', ⟨by have := HJ4.out; first | omega | exact Nat.le_refl _⟩, by repeat (first | exact Drawn0.refl _ | apply Drawn0.step)⟩
        case rest =>
          clear HC12
          try clear c1
          try clear p2
          try clear c4
          try clear c6
          try clear c6b0
          try clear c6b1
          try clear c7
          try clear c7b0
          try clear c7b1
          try clear c9
          try clear c11
          try clear c13
          try clear c13b0
          try clear c13b1
          try clear c14
          try clear c14b0
          try clear c14b1
          try clear p2
          obtain ⟨kq, x72_11, rfl, HA, HJ11, ⟨mc11, rfl⟩⟩ := hcut
          cases kq with
          | zero => exact absurd HA.out (by simp [stratalaw01_BitsReads.j1])
          | succ kj11 =>
            have H := HA.out
            clear HA
            simp only [stratalaw01_BitsReads.j1] at H
            by_cases c16 : x72_11 = true
            · subst c16
              have H1 : (some false) = some r := by rw [if_pos rfl] at H; exact H
              clear H
              have H := H1
              clear H1
              obtain rfl := Option.some.inj H
              go_wp2
              go_ret
              exact ⟨by first | rfl | (simp; done) | (simp [*]; done), by repeat (first | exact Drawn0.refl _ | apply Drawn0.step)⟩
            · replace c16 := Bool.eq_false_iff.mpr c16
              subst c16
              have H1 : ((bits_ReadFixed32.f kj11 a0 a1).bind fun bt147 => ((strataref01_ReadFixed32.f kj11 a0 a1).bind fun bt150 => (if bt147.1 = bt150.1 then (if bt147.2.1 = bt150.2.1 then ((stratalaw01_num.f bt147.2.2).bind fun t153 => (stratalaw01_BitsReads.j2 kj11 a0 a1 (t153 != bt150.2.2))) else (stratalaw01_BitsReads.j2 kj11 a0 a1 true)) else (stratalaw01_BitsReads.j2 kj11 a0 a1 true)))) = some r := by rw [if_neg (show ¬ (false = true) by decide)] at H; exact H
              clear H
              have H := H1
              clear H1
              replace H := Option.bind_eq_some_iff.mp H
              obtain ⟨⟨t147, t148, t149⟩, A170, H⟩ := H
              replace H : ((strataref01_ReadFixed32.f kj11 a0 a1).bind fun bt150 => (if t147 = bt150.1 then (if t148 = bt150.2.1 then ((stratalaw01_num.f t149).bind fun t153 => (stratalaw01_BitsReads.j2 kj11 a0 a1 (t153 != bt150.2.2))) else (stratalaw01_BitsReads.j2 kj11 a0 a1 true)) else (stratalaw01_BitsReads.j2 kj11 a0 a1 true))) = some r := H
              have A17 := Aside0.mk A170
              clear A170
              replace H := Option.bind_eq_some_iff.mp H
              obtain ⟨⟨t150, t151, t152⟩, A180, H⟩ := H
              replace H : (if t147 = t150 then (if t148 = t151 then ((stratalaw01_num.f t149).bind fun t153 => (stratalaw01_BitsReads.j2 kj11 a0 a1 (t153 != t152))) else (stratalaw01_BitsReads.j2 kj11 a0 a1 true)) else (stratalaw01_BitsReads.j2 kj11 a0 a1 true)) = some r := H
              have A18 := Aside0.mk A180
              clear A180
              have HC19 := Aside0.mk H
              clear H
              go_upto_region 11 with (first | ((with_reducible refine gate_callee (f := 48) rfl ?_); refine goesL_ (some 76) rfl rfl Try.func48 (by kernel_rfl) rfl #[.string a0, .int .i64 a1] rfl (by (try simp only [List.map_toArray, List.map_cons, List.map_nil]); first | done | rfl | (simp only [List.length_drop, List.length_take]; rfl)) ?_; (with_reducible refine (bits_ReadFixed32.calls kj11 a0 a1 t147 t148 t149 _ A17.out).mono ?_); rintro e w' ⟨rfl, ⟨nd, rfl⟩⟩; refine ⟨_, rfl, ?_⟩) | ((with_reducible refine gate_callee (f := 49) rfl ?_); refine goesL_ (some 83) rfl rfl Try.func49 (by kernel_rfl) rfl #[.string a0, .int .i64 a1] rfl (by (try simp only [List.map_toArray, List.map_cons, List.map_nil]); first | done | rfl | (simp only [List.length_drop, List.length_take]; rfl)) ?_; (with_reducible refine (strataref01_ReadFixed32.calls kj11 a0 a1 t150 t151 t152 _ A18.out).mono ?_); rintro e w' ⟨rfl, ⟨nd, rfl⟩⟩; refine ⟨_, rfl, ?_⟩))
              (try simp only [Act.put, List.setIfInBounds_toArray, List.set_cons_zero, List.set_cons_succ])
              go_cut [100] (fun v100 wc => ∃ (kq : Nat) (x100_18 : Bool), v100 = .bool x100_18 ∧ Aside0 (stratalaw01_BitsReads.j2 kq a0 a1 x100_18 = some r) ∧ Aside0 (kq ≤ kj11) ∧ Drawn0 w wc)
              case first =>
                have H := HC19.out
                clear HC19
                by_cases c20 : t147 = t150
                · rw [if_pos c20] at H
                  have c20b0 : (t147 == t150) = true := beq_iff_eq.mpr c20
                  have c20b1 : (t147 != t150) = false := bne_eq_false_iff_eq.mpr c20
                  clear c20
                  (first | rw [c20b0] | (simp only [i64_w, i32_w]; rw [c20b0]) | skip)
                  by_cases c21 : t148 = t151
                  · rw [if_pos c21] at H
                    have c21b0 : (t148 == t151) = true := beq_iff_eq.mpr c21
                    have c21b1 : (t148 != t151) = false := bne_eq_false_iff_eq.mpr c21
                    clear c21
                    replace H := Option.bind_eq_some_iff.mp H
                    obtain ⟨t153, A220, H⟩ := H
                    replace H : (stratalaw01_BitsReads.j2 kj11 a0 a1 (t153 != t152)) = some r := H
                    have A22 := Aside0.mk A220
                    clear A220
                    have H' := Aside0.mk H
                    clear H
                    go_wp2_with (first | (go_at_call 13; (with_reducible refine (stratalaw01_num.calls t149 t153 _ A22.out).mono ?_); rintro e w' ⟨rfl, ⟨nd, rfl⟩⟩))
                    go_meet
                    case rel => exact ⟨_, ((t153 != t152)), (by first | rfl | (simp; done) | (simp [*]; done)), H', ⟨by have := HJ4.out; have := HJ11.out; first | omega | exact Nat.le_refl _⟩, by repeat (first | exact Drawn0.refl _ | apply Drawn0.step)⟩
                  · rw [if_neg c21] at H
                    have c21b0 : (t148 == t151) = false := beq_eq_false_iff_ne.mpr c21
                    have c21b1 : (t148 != t151) = true := bne_iff_ne.mpr c21
                    have H' := Aside0.mk H
                    clear H
                    go_wp2
                    go_meet
                    case rel => exact ⟨_, (true), (by first | rfl | (simp; done) | (simp [*]; done)), H', ⟨by have := HJ4.out; have := HJ11.out; first | omega | exact Nat.le_refl _⟩, by repeat (first | exact Drawn0.refl _ | apply Drawn0.step)⟩
                · rw [if_neg c20] at H
                  have c20b0 : (t147 == t150) = false := beq_eq_false_iff_ne.mpr c20
                  have c20b1 : (t147 != t150) = true := bne_iff_ne.mpr c20
                  (first | rw [c20b0] | (simp only [i64_w, i32_w]; rw [c20b0]) | skip)
                  have H' := Aside0.mk H
                  clear H
                  go_wp2
                  go_meet
                  case rel => exact ⟨_, (true), (by first | rfl | (simp; done) | (simp [*]; done)), H', ⟨by have := HJ4.out; have := HJ11.out; first | omega | exact Nat.le_refl _⟩, by repeat (first | exact Drawn0.refl _ | apply Drawn0.step)⟩
              case rest =>
                clear HC19
                try clear c1
                try clear c2
                try clear p2
                try clear c4
                try clear c6
                try clear c6b0
                try clear c6b1
                try clear c7
                try clear c7b0
                try clear c7b1
                try clear c9
                try clear c11
                try clear c13
                try clear c13b0
                try clear c13b1
                try clear c14
                try clear c14b0
                try clear c14b1
                try clear c16
                try clear c20
                try clear c20b0
                try clear c20b1
                try clear c21
                try clear c21b0
                try clear c21b1
                try clear p2
                obtain ⟨kq, x100_18, rfl, HA, HJ18, ⟨mc18, rfl⟩⟩ := hcut
                cases kq with
                | zero => exact absurd HA.out (by simp [stratalaw01_BitsReads.j2])
                | succ kj18 =>
                  have H := HA.out
                  clear HA
                  simp only [stratalaw01_BitsReads.j2] at H
                  by_cases c23 : x100_18 = true
                  · subst c23
                    have H1 : (some false) = some r := by rw [if_pos rfl] at H; exact H
                    clear H
                    have H := H1
                    clear H1
                    obtain rfl := Option.some.inj H
                    go_wp2
                    go_ret
                    exact ⟨by first | rfl | (simp; done) | (simp [*]; done), by repeat (first | exact Drawn0.refl _ | apply Drawn0.step)⟩
                  · replace c23 := Bool.eq_false_iff.mpr c23
                    subst c23
                    have H1 : ((bits_ReadFixed64.f kj18 a0 a1).bind fun bt154 => ((strataref01_ReadFixed64.f kj18 a0 a1).bind fun bt157 => (if bt154.1 = bt157.1 then (if bt154.2.1 = bt157.2.1 then ((stratalaw01_num.f bt154.2.2).bind fun t160 => (stratalaw01_BitsReads.j3 kj18 a0 a1 (t160 != bt157.2.2))) else (stratalaw01_BitsReads.j3 kj18 a0 a1 true)) else (stratalaw01_BitsReads.j3 kj18 a0 a1 true)))) = some r := by rw [if_neg (show ¬ (false = true) by decide)] at H; exact H
                    clear H
                    have H := H1
                    clear H1
                    replace H := Option.bind_eq_some_iff.mp H
                    obtain ⟨⟨t154, t155, t156⟩, A240, H⟩ := H
                    replace H : ((strataref01_ReadFixed64.f kj18 a0 a1).bind fun bt157 => (if t154 = bt157.1 then (if t155 = bt157.2.1 then ((stratalaw01_num.f t156).bind fun t160 => (stratalaw01_BitsReads.j3 kj18 a0 a1 (t160 != bt157.2.2))) else (stratalaw01_BitsReads.j3 kj18 a0 a1 true)) else (stratalaw01_BitsReads.j3 kj18 a0 a1 true))) = some r := H
                    have A24 := Aside0.mk A240
                    clear A240
                    replace H := Option.bind_eq_some_iff.mp H
                    obtain ⟨⟨t157, t158, t159⟩, A250, H⟩ := H
                    replace H : (if t154 = t157 then (if t155 = t158 then ((stratalaw01_num.f t156).bind fun t160 => (stratalaw01_BitsReads.j3 kj18 a0 a1 (t160 != t159))) else (stratalaw01_BitsReads.j3 kj18 a0 a1 true)) else (stratalaw01_BitsReads.j3 kj18 a0 a1 true)) = some r := H
                    have A25 := Aside0.mk A250
                    clear A250
                    have HC26 := Aside0.mk H
                    clear H
                    go_upto_region 15 with (first | ((with_reducible refine gate_callee (f := 50) rfl ?_); refine goesL_ (some 104) rfl rfl Try.func50 (by kernel_rfl) rfl #[.string a0, .int .i64 a1] rfl (by (try simp only [List.map_toArray, List.map_cons, List.map_nil]); first | done | rfl | (simp only [List.length_drop, List.length_take]; rfl)) ?_; (with_reducible refine (bits_ReadFixed64.calls kj18 a0 a1 t154 t155 t156 _ A24.out).mono ?_); rintro e w' ⟨rfl, ⟨nd, rfl⟩⟩; refine ⟨_, rfl, ?_⟩) | ((with_reducible refine gate_callee (f := 51) rfl ?_); refine goesL_ (some 111) rfl rfl Try.func51 (by kernel_rfl) rfl #[.string a0, .int .i64 a1] rfl (by (try simp only [List.map_toArray, List.map_cons, List.map_nil]); first | done | rfl | (simp only [List.length_drop, List.length_take]; rfl)) ?_; (with_reducible refine (strataref01_ReadFixed64.calls kj18 a0 a1 t157 t158 t159 _ A25.out).mono ?_); rintro e w' ⟨rfl, ⟨nd, rfl⟩⟩; refine ⟨_, rfl, ?_⟩))
                    (try simp only [Act.put, List.setIfInBounds_toArray, List.set_cons_zero, List.set_cons_succ])
                    go_cut [128] (fun v128 wc => ∃ (kq : Nat) (x128_25 : Bool), v128 = .bool x128_25 ∧ Aside0 (stratalaw01_BitsReads.j3 kq a0 a1 x128_25 = some r) ∧ Aside0 (kq ≤ kj18) ∧ Drawn0 w wc)
                    case first =>
                      have H := HC26.out
                      clear HC26
                      by_cases c27 : t154 = t157
                      · rw [if_pos c27] at H
                        have c27b0 : (t154 == t157) = true := beq_iff_eq.mpr c27
                        have c27b1 : (t154 != t157) = false := bne_eq_false_iff_eq.mpr c27
                        clear c27
                        (first | rw [c27b0] | (simp only [i64_w, i32_w]; rw [c27b0]) | skip)
                        by_cases c28 : t155 = t158
                        · rw [if_pos c28] at H
                          have c28b0 : (t155 == t158) = true := beq_iff_eq.mpr c28
                          have c28b1 : (t155 != t158) = false := bne_eq_false_iff_eq.mpr c28
                          clear c28
                          replace H := Option.bind_eq_some_iff.mp H
                          obtain ⟨t160, A290, H⟩ := H
                          replace H : (stratalaw01_BitsReads.j3 kj18 a0 a1 (t160 != t159)) = some r := H
                          have A29 := Aside0.mk A290
                          clear A290
                          have H' := Aside0.mk H
                          clear H
                          go_wp2_with (first | (go_at_call 13; (with_reducible refine (stratalaw01_num.calls t156 t160 _ A29.out).mono ?_); rintro e w' ⟨rfl, ⟨nd, rfl⟩⟩))
                          go_meet
                          case rel => exact ⟨_, ((t160 != t159)), (by first | rfl | (simp; done) | (simp [*]; done)), H', ⟨by have := HJ4.out; have := HJ11.out; have := HJ18.out; first | omega | exact Nat.le_refl _⟩, by repeat (first | exact Drawn0.refl _ | apply Drawn0.step)⟩
                        · rw [if_neg c28] at H
                          have c28b0 : (t155 == t158) = false := beq_eq_false_iff_ne.mpr c28
                          have c28b1 : (t155 != t158) = true := bne_iff_ne.mpr c28
                          have H' := Aside0.mk H
                          clear H
                          go_wp2
                          go_meet
                          case rel => exact ⟨_, (true), (by first | rfl | (simp; done) | (simp [*]; done)), H', ⟨by have := HJ4.out; have := HJ11.out; have := HJ18.out; first | omega | exact Nat.le_refl _⟩, by repeat (first | exact Drawn0.refl _ | apply Drawn0.step)⟩
                      · rw [if_neg c27] at H
                        have c27b0 : (t154 == t157) = false := beq_eq_false_iff_ne.mpr c27
                        have c27b1 : (t154 != t157) = true := bne_iff_ne.mpr c27
                        (first | rw [c27b0] | (simp only [i64_w, i32_w]; rw [c27b0]) | skip)
                        have H' := Aside0.mk H
                        clear H
                        go_wp2
                        go_meet
                        case rel => exact ⟨_, (true), (by first | rfl | (simp; done) | (simp [*]; done)), H', ⟨by have := HJ4.out; have := HJ11.out; have := HJ18.out; first | omega | exact Nat.le_refl _⟩, by repeat (first | exact Drawn0.refl _ | apply Drawn0.step)⟩
                    case rest =>
                      clear HC26
                      try clear c1
                      try clear c2
                      try clear p2
                      try clear c4
                      try clear c5
                      try clear c6
                      try clear c6b0
                      try clear c6b1
                      try clear c7
                      try clear c7b0
                      try clear c7b1
                      try clear c9
                      try clear c11
                      try clear c13
                      try clear c13b0
                      try clear c13b1
                      try clear c14
                      try clear c14b0
                      try clear c14b1
                      try clear c16
                      try clear c18
                      try clear c20
                      try clear c20b0
                      try clear c20b1
                      try clear c21
                      try clear c21b0
                      try clear c21b1
                      try clear c23
                      try clear c27
                      try clear c27b0
                      try clear c27b1
                      try clear c28
                      try clear c28b0
                      try clear c28b1
                      try clear p2
                      obtain ⟨kq, x128_25, rfl, HA, HJ25, ⟨mc25, rfl⟩⟩ := hcut
                      cases kq with
                      | zero => exact absurd HA.out (by simp [stratalaw01_BitsReads.j3])
                      | succ kj25 =>
                        have H := HA.out
                        clear HA
                        simp only [stratalaw01_BitsReads.j3] at H
                        by_cases c30 : x128_25 = true
                        · subst c30
                          have H1 : (some false) = some r := by rw [if_pos rfl] at H; exact H
                          clear H
                          have H := H1
                          clear H1
                          obtain rfl := Option.some.inj H
                          go_wp2
                          go_ret
                          exact ⟨by first | rfl | (simp; done) | (simp [*]; done), by repeat (first | exact Drawn0.refl _ | apply Drawn0.step)⟩
                        · replace c30 := Bool.eq_false_iff.mpr c30
                          subst c30
                          have H1 : ((bits_ReadBlob.f kj25 a0 a1).bind fun bt161 => ((strataref01_ReadBlob.f kj25 a0 a1).bind fun bt164 => (if bt161.1.toList = bt164.1.toList then (if bt161.2.1 = bt164.2.1 then ((stratalaw01_num.f bt161.2.2).bind fun t167 => (some (t167 == bt164.2.2))) else (some false)) else (some false)))) = some r := by rw [if_neg (show ¬ (false = true) by decide)] at H; exact H
                          clear H
                          have H := H1
                          clear H1
                          replace H := Option.bind_eq_some_iff.mp H
                          obtain ⟨⟨t161, t162, t163⟩, A310, H⟩ := H
                          replace H : ((strataref01_ReadBlob.f kj25 a0 a1).bind fun bt164 => (if t161.toList = bt164.1.toList then (if t162 = bt164.2.1 then ((stratalaw01_num.f t163).bind fun t167 => (some (t167 == bt164.2.2))) else (some false)) else (some false))) = some r := H
                          have A31 := Aside0.mk A310
                          clear A310
                          replace H := Option.bind_eq_some_iff.mp H
                          obtain ⟨⟨t164, t165, t166⟩, A320, H⟩ := H
                          replace H : (if t161.toList = t164.toList then (if t162 = t165 then ((stratalaw01_num.f t163).bind fun t167 => (some (t167 == t166))) else (some false)) else (some false)) = some r := H
                          have A32 := Aside0.mk A320
                          clear A320
                          by_cases c33 : t161.toList = t164.toList
                          · rw [if_pos c33] at H
                            have c33b0 : (t161.toList == t164.toList) = true := beq_iff_eq.mpr c33
                            have c33b1 : (t161.toList != t164.toList) = false := bne_eq_false_iff_eq.mpr c33
                            clear c33
                            by_cases c34 : t162 = t165
                            · rw [if_pos c34] at H
                              have c34b0 : (t162 == t165) = true := beq_iff_eq.mpr c34
                              have c34b1 : (t162 != t165) = false := bne_eq_false_iff_eq.mpr c34
                              clear c34
                              replace H := Option.bind_eq_some_iff.mp H
                              obtain ⟨t167, A350, H⟩ := H
                              replace H : (some (t167 == t166)) = some r := H
                              have A35 := Aside0.mk A350
                              clear A350
                              obtain rfl := Option.some.inj H
                              go_wp2_with (first | ((with_reducible refine gate_callee (f := 52) rfl ?_); refine goesL_ (some 132) rfl rfl Try.func52 (by kernel_rfl) rfl #[.string a0, .int .i64 a1] rfl (by (try simp only [List.map_toArray, List.map_cons, List.map_nil]); first | done | rfl | (simp only [List.length_drop, List.length_take]; rfl)) ?_; (with_reducible refine (bits_ReadBlob.calls kj25 a0 a1 t161 t162 t163 _ A31.out).mono ?_); rintro e w' ⟨rfl, ⟨nd, rfl⟩⟩; refine ⟨_, rfl, ?_⟩) | ((with_reducible refine gate_callee (f := 53) rfl ?_); refine goesL_ (some 139) rfl rfl Try.func53 (by kernel_rfl) rfl #[.string a0, .int .i64 a1] rfl (by (try simp only [List.map_toArray, List.map_cons, List.map_nil]); first | done | rfl | (simp only [List.length_drop, List.length_take]; rfl)) ?_; (with_reducible refine (strataref01_ReadBlob.calls kj25 a0 a1 t164 t165 t166 _ A32.out).mono ?_); rintro e w' ⟨rfl, ⟨nd, rfl⟩⟩; refine ⟨_, rfl, ?_⟩) | (go_at_call 13; (with_reducible refine (stratalaw01_num.calls t163 t167 _ A35.out).mono ?_); rintro e w' ⟨rfl, ⟨nd, rfl⟩⟩))
                              go_ret
                              exact ⟨by first | rfl | (simp; done) | (simp [*]; done), by repeat (first | exact Drawn0.refl _ | apply Drawn0.step)⟩
                            · rw [if_neg c34] at H
                              have c34b0 : (t162 == t165) = false := beq_eq_false_iff_ne.mpr c34
                              have c34b1 : (t162 != t165) = true := bne_iff_ne.mpr c34
                              obtain rfl := Option.some.inj H
                              go_wp2_with (first | ((with_reducible refine gate_callee (f := 52) rfl ?_); refine goesL_ (some 132) rfl rfl Try.func52 (by kernel_rfl) rfl #[.string a0, .int .i64 a1] rfl (by (try simp only [List.map_toArray, List.map_cons, List.map_nil]); first | done | rfl | (simp only [List.length_drop, List.length_take]; rfl)) ?_; (with_reducible refine (bits_ReadBlob.calls kj25 a0 a1 t161 t162 t163 _ A31.out).mono ?_); rintro e w' ⟨rfl, ⟨nd, rfl⟩⟩; refine ⟨_, rfl, ?_⟩) | ((with_reducible refine gate_callee (f := 53) rfl ?_); refine goesL_ (some 139) rfl rfl Try.func53 (by kernel_rfl) rfl #[.string a0, .int .i64 a1] rfl (by (try simp only [List.map_toArray, List.map_cons, List.map_nil]); first | done | rfl | (simp only [List.length_drop, List.length_take]; rfl)) ?_; (with_reducible refine (strataref01_ReadBlob.calls kj25 a0 a1 t164 t165 t166 _ A32.out).mono ?_); rintro e w' ⟨rfl, ⟨nd, rfl⟩⟩; refine ⟨_, rfl, ?_⟩))
                              go_ret
                              exact ⟨by first | rfl | (simp; done) | (simp [*]; done), by repeat (first | exact Drawn0.refl _ | apply Drawn0.step)⟩
                          · rw [if_neg c33] at H
                            have c33b0 : (t161.toList == t164.toList) = false := beq_eq_false_iff_ne.mpr c33
                            have c33b1 : (t161.toList != t164.toList) = true := bne_iff_ne.mpr c33
                            obtain rfl := Option.some.inj H
                            go_wp2_with (first | ((with_reducible refine gate_callee (f := 52) rfl ?_); refine goesL_ (some 132) rfl rfl Try.func52 (by kernel_rfl) rfl #[.string a0, .int .i64 a1] rfl (by (try simp only [List.map_toArray, List.map_cons, List.map_nil]); first | done | rfl | (simp only [List.length_drop, List.length_take]; rfl)) ?_; (with_reducible refine (bits_ReadBlob.calls kj25 a0 a1 t161 t162 t163 _ A31.out).mono ?_); rintro e w' ⟨rfl, ⟨nd, rfl⟩⟩; refine ⟨_, rfl, ?_⟩) | ((with_reducible refine gate_callee (f := 53) rfl ?_); refine goesL_ (some 139) rfl rfl Try.func53 (by kernel_rfl) rfl #[.string a0, .int .i64 a1] rfl (by (try simp only [List.map_toArray, List.map_cons, List.map_nil]); first | done | rfl | (simp only [List.length_drop, List.length_take]; rfl)) ?_; (with_reducible refine (strataref01_ReadBlob.calls kj25 a0 a1 t164 t165 t166 _ A32.out).mono ?_); rintro e w' ⟨rfl, ⟨nd, rfl⟩⟩; refine ⟨_, rfl, ?_⟩))
                            go_ret
                            exact ⟨by first | rfl | (simp; done) | (simp [*]; done), by repeat (first | exact Drawn0.refl _ | apply Drawn0.step)⟩

/-- THE ONE PURE STATEMENT of stratalaw01_BitsReads: yours. -/
def stratalaw01_BitsReads.Pure : Prop := ∀ (a0 : ByteArray) (a1 : Int), a0.size ≤ 140737488351232 → (Lit.int .i64 a1).wf = true → ∃ k, stratalaw01_BitsReads.f k a0 a1 = some true
theorem stratalaw01_BitsReads.walk (P : stratalaw01_BitsReads.Pure) (a0 : ByteArray) (a1 : Int) (w : World) (w0 : a0.size ≤ 140737488351232) (w1 : (Lit.int .i64 a1).wf = true) :
    Calls Try.prog 11 #[.string a0, .int .i64 a1] w fun e w' => e = .returned (.bool true) ∧ Below w.heap.size w w' := by
  obtain ⟨k, h⟩ := P a0 a1 w0 w1
  refine (stratalaw01_BitsReads.calls k a0 a1 true w h).mono ?_
  rintro e w' ⟨rfl, hd⟩
  exact ⟨rfl, hd.below⟩

end Go.Proofs.Ytnanepgcaefhcaa.PBitsReads
