-- PRINTED BY print.sh 35421559b90ae4d0a3588c463048766b98c2df88dd9212a6774a882060cdf62d: not written by this session
import Derived.Test.YtnanepgcaefhcaaPRedoNamesx0
namespace Go.Proofs.Ytnanepgcaefhcaa.PRedoNames
open Go.RowKit Go.Proofs.YtnanepgcaefhcaaW.PrintWords Go.Proofs.YtnanepgcaefhcaaW.PrintLast Go.Proofs.YtnanepgcaefhcaaW.PrintMore
attribute [local go_sem] max2_int min2_int max_two min_two max_three min_three max_four min_four   -- for this text's walks alone
set_option linter.unusedVariables false
set_option linter.unusedSimpArgs false

/-! ### stratalaw11_num: function 14 -/
def stratalaw11_num.f (a0 : Int) : Option (Int) := some a0
set_option maxHeartbeats 8000000 in
set_option maxRecDepth 100000 in
theorem stratalaw11_num.calls (a0 : Int) (r : Int) (w : World) (h : stratalaw11_num.f a0 = some r) :
    Calls Try.prog 14 #[.int .i64 a0] w fun e w' => e = .returned (.int .i64 r) ∧ Drawn0 w w' := by
  have H : (some a0) = some r := h
  clear h
  obtain rfl := Option.some.inj H
  go_enter Try.func14, Try.ntmps14
  go_wp2
  go_ret
  exact ⟨by first | rfl | (simp; done) | (simp [*]; done), by repeat (first | exact Drawn0.refl _ | apply Drawn0.step)⟩

/-! ### stratalaw11_RedoNames: function 4 -/
def stratalaw11_RedoNames.j0 : Nat → Bool → Option (Bool)
  | 0, _ => none
  | k + 1, x12 => if x12 = true then (some false) else (some true)
def stratalaw11_RedoNames.f (k : Nat)  : Option (Bool) := (stratalaw11_num.f 110).bind fun t101 => (if t101 = 110 then ((stratalaw11_num.f 118).bind fun t102 => (stratalaw11_RedoNames.j0 k (t102 != 118))) else (stratalaw11_RedoNames.j0 k true))
theorem stratalaw11_RedoNames.mono_l : ∀ k, (∀ y0, LeO (stratalaw11_RedoNames.j0 k y0) (stratalaw11_RedoNames.j0 (k + 1) y0))
  | 0 => fun _ r h => by simp [stratalaw11_RedoNames.j0] at h
  | k + 1 => by
    have ih0 := stratalaw11_RedoNames.mono_l k
    · intro y0
      unfold stratalaw11_RedoNames.j0
      repeat' first
      | (with_reducible exact ih0 _)
      | (with_reducible exact LeO.refl _)
      | (with_reducible exact LeO.none _)
      | (with_reducible refine LeO.ite ?_ ?_)
      | (with_reducible refine LeO.bind ?_ (fun _ => ?_))
      | exact ih0 _
      | exact LeO.none _
      | refine LeO.ite ?_ ?_
      | refine LeO.bind ?_ (fun _ => ?_)
theorem stratalaw11_RedoNames.mono : ∀ k, LeO (stratalaw11_RedoNames.f k ) (stratalaw11_RedoNames.f (k + 1) ) := by
  intro  k
  have ih0 := stratalaw11_RedoNames.mono_l k
  unfold stratalaw11_RedoNames.f
  repeat' first
      | (with_reducible exact ih0 _)
      | (with_reducible exact LeO.refl _)
      | (with_reducible exact LeO.none _)
      | (with_reducible refine LeO.ite ?_ ?_)
      | (with_reducible refine LeO.bind ?_ (fun _ => ?_))
      | exact ih0 _
      | exact LeO.none _
      | refine LeO.ite ?_ ?_
      | refine LeO.bind ?_ (fun _ => ?_)
set_option maxHeartbeats 8000000 in
set_option maxRecDepth 100000 in
theorem stratalaw11_RedoNames.calls (k : Nat)  (r : Bool) (w : World) (h : stratalaw11_RedoNames.f k  = some r) :
    Calls Try.prog 4 #[] w fun e w' => e = .returned (.bool r) ∧ Drawn0 w w' := by
  have H : ((stratalaw11_num.f 110).bind fun t101 => (if t101 = 110 then ((stratalaw11_num.f 118).bind fun t102 => (stratalaw11_RedoNames.j0 k (t102 != 118))) else (stratalaw11_RedoNames.j0 k true))) = some r := h
  clear h
  have HC1 := Aside0.mk H
  clear H
  go_enter Try.func4, Try.ntmps4
  go_upto_region 3 with (fail)
  go_cut [12] (fun v12 wc => ∃ (kq : Nat) (x12_0 : Bool), v12 = .bool x12_0 ∧ Aside0 (stratalaw11_RedoNames.j0 kq x12_0 = some r) ∧ Aside0 (kq ≤ k) ∧ Drawn0 w wc)
  case first =>
    have H := HC1.out
    clear HC1
    replace H := Option.bind_eq_some_iff.mp H
    obtain ⟨t101, A20, H⟩ := H
    replace H : (if t101 = 110 then ((stratalaw11_num.f 118).bind fun t102 => (stratalaw11_RedoNames.j0 k (t102 != 118))) else (stratalaw11_RedoNames.j0 k true)) = some r := H
    have A2 := Aside0.mk A20
    clear A20
    by_cases c3 : t101 = 110
    · rw [if_pos c3] at H
      have c3b0 : (t101 == 110) = true := beq_iff_eq.mpr c3
      have c3b1 : (t101 != 110) = false := bne_eq_false_iff_eq.mpr c3
      clear c3
      (first | rw [c3b0] | (simp only [i64_w, i32_w]; rw [c3b0]) | skip)
      replace H := Option.bind_eq_some_iff.mp H
      obtain ⟨t102, A40, H⟩ := H
      replace H : (stratalaw11_RedoNames.j0 k (t102 != 118)) = some r := H
      have A4 := Aside0.mk A40
      clear A40
      have H' := Aside0.mk H
      clear H
      go_wp2_with (first | (go_at_call 14; (with_reducible refine (stratalaw11_num.calls 110 t101 _ A2.out).mono ?_); rintro e w' ⟨rfl, ⟨nd, rfl⟩⟩) | (go_at_call 14; (with_reducible refine (stratalaw11_num.calls 118 t102 _ A4.out).mono ?_); rintro e w' ⟨rfl, ⟨nd, rfl⟩⟩))
      go_meet
      case rel => exact ⟨_, ((t102 != 118)), (by first | rfl | (simp; done) | (simp [*]; done)), H', ⟨by first | omega | exact Nat.le_refl _⟩, by repeat (first | exact Drawn0.refl _ | apply Drawn0.step)⟩
    · rw [if_neg c3] at H
      have c3b0 : (t101 == 110) = false := beq_eq_false_iff_ne.mpr c3
      have c3b1 : (t101 != 110) = true := bne_iff_ne.mpr c3
      (first | rw [c3b0] | (simp only [i64_w, i32_w]; rw [c3b0]) | skip)
      have H' := Aside0.mk H
      clear H
      go_wp2_with (first | (go_at_call 14; (with_reducible refine (stratalaw11_num.calls 110 t101 _ A2.out).mono ?_); rintro e w' ⟨rfl, ⟨nd, rfl⟩⟩))
      go_meet
      case rel => exact ⟨_, (true), (by first | rfl | (simp; done) | (simp [*]; done)), H', ⟨by first | omega | exact Nat.le_refl _⟩, by repeat (first | exact Drawn0.refl _ | apply Drawn0.step)⟩
  case rest =>
    clear HC1
    try clear p2
    try clear c3
    try clear c3b0
    try clear c3b1
    try clear c4
    obtain ⟨kq, x12_0, rfl, HA, HJ0, ⟨mc0, rfl⟩⟩ := hcut
    cases kq with
    | zero => exact absurd HA.out (by simp [stratalaw11_RedoNames.j0])
    | succ kj0 =>
      have H := HA.out
      clear HA
      simp only [stratalaw11_RedoNames.j0] at H
      by_cases c5 : x12_0 = true
      · subst c5
        have H1 : (some false) = some r := by rw [if_pos rfl] at H; exact H
        clear H
        have H := H1
        clear H1
        obtain rfl := Option.some.inj H
        go_wp2
        go_ret
        exact ⟨by first | rfl | (simp; done) | (simp [*]; done), by repeat (first | exact Drawn0.refl _ | apply Drawn0.step)⟩
      · replace c5 := Bool.eq_false_iff.mpr c5
        subst c5
        have H1 : (some true) = some r := by rw [if_neg (show ¬ (false = true) by decide)] at H; exact H
        clear H
        have H := H1
        clear H1
        obtain rfl := Option.some.inj H
        go_wp2
        go_ret
        exact ⟨by first | rfl | (simp; done) | (simp [*]; done), by repeat (first | exact Drawn0.refl _ | apply Drawn0.step)⟩

/-- THE ONE PURE STATEMENT of stratalaw11_RedoNames: yours. -/
def stratalaw11_RedoNames.Pure : Prop := ∃ k, stratalaw11_RedoNames.f k  = some true
theorem stratalaw11_RedoNames.walk (P : stratalaw11_RedoNames.Pure)  (w : World)  :
    Calls Try.prog 4 #[] w fun e w' => e = .returned (.bool true) ∧ Below w.heap.size w w' := by
  obtain ⟨k, h⟩ := P  
  refine (stratalaw11_RedoNames.calls k  true w h).mono ?_
  rintro e w' ⟨rfl, hd⟩
  exact ⟨rfl, hd.below⟩

end Go.Proofs.Ytnanepgcaefhcaa.PRedoNames
