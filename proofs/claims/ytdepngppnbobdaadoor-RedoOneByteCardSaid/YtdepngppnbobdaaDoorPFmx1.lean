-- Written by the kit's print.py, called by xprint.py (a helper of this repo); some functions are taken from texts of this seat that were proved by hand.
import Derived.Test.YtdepngppnbobdaaDoorPFmx0
namespace Go.Proofs.YtdepngppnbobdaaDoor.PFm
open Go.RowKit Go.Proofs.YtdepngppnbobdaaDoorW.PrintWords Go.Proofs.YtdepngppnbobdaaDoorW.PrintLast Go.Proofs.YtdepngppnbobdaaDoorW.PrintMore
attribute [local go_sem] max2_int min2_int max_two min_two max_three min_three max_four min_four   -- for this text's walks alone
set_option linter.unusedVariables false
set_option linter.unusedSimpArgs false

/-! ### stratalaw11_framed: function 14 -/
def stratalaw11_framed.l0 : Nat → Int → ByteArray → Option (Int × ByteArray)
  | 0, _, _ => none
  | k + 1, x0, x1 => if (x1.size : Int) < 8 then (if x1.size + 1 ≤ 9223372036854775807 then (stratalaw11_framed.l0 k x0 (x1 ++ (⟨#[109]⟩ : ByteArray))) else (none)) else (if 0 ≤ 8 then (if 8 ≤ (x1.size : Int) then (some (x0, x1.extract 0 8)) else (none)) else (none))
def stratalaw11_framed.f (k : Nat) (a0 : Int) (a1 : ByteArray) : Option (Int × ByteArray) := if a0 = 2 then (stratalaw11_framed.l0 k a0 a1) else (if a0 = 3 then (some (a0, (⟨#[]⟩ : ByteArray))) else (if a1.toList = ([] : List UInt8) then (if 1 > 131072 then (if 0 ≤ 131072 then (if 131072 ≤ 1 then (some (1, (⟨#[100]⟩ : ByteArray).extract 0 131072)) else (none)) else (none)) else (some (1, (⟨#[100]⟩ : ByteArray)))) else (if (a1.size : Int) > 131072 then (if 0 ≤ 131072 then (if 131072 ≤ (a1.size : Int) then (some (1, a1.extract 0 131072)) else (none)) else (none)) else (some (1, a1)))))
theorem stratalaw11_framed.mono_l : ∀ k, (∀ y0 y1, LeO (stratalaw11_framed.l0 k y0 y1) (stratalaw11_framed.l0 (k + 1) y0 y1))
  | 0 => fun _ _ r h => by simp [stratalaw11_framed.l0] at h
  | k + 1 => by
    have ih0 := stratalaw11_framed.mono_l k
    · intro y0 y1
      unfold stratalaw11_framed.l0
      repeat' first
      | (with_reducible exact ih0 _ _)
      | (with_reducible exact LeO.refl _)
      | (with_reducible exact LeO.none _)
      | (with_reducible refine LeO.ite ?_ ?_)
      | (with_reducible refine LeO.bind ?_ (fun _ => ?_))
      | exact ih0 _ _
      | exact LeO.none _
      | refine LeO.ite ?_ ?_
      | refine LeO.bind ?_ (fun _ => ?_)
theorem stratalaw11_framed.mono : ∀ a0 a1 k, LeO (stratalaw11_framed.f k a0 a1) (stratalaw11_framed.f (k + 1) a0 a1) := by
  intro a0 a1 k
  have ih0 := stratalaw11_framed.mono_l k
  unfold stratalaw11_framed.f
  repeat' first
      | (with_reducible exact ih0 _ _)
      | (with_reducible exact LeO.refl _)
      | (with_reducible exact LeO.none _)
      | (with_reducible refine LeO.ite ?_ ?_)
      | (with_reducible refine LeO.bind ?_ (fun _ => ?_))
      | exact ih0 _ _
      | exact LeO.none _
      | refine LeO.ite ?_ ?_
      | refine LeO.bind ?_ (fun _ => ?_)
set_option maxHeartbeats 8000000 in
set_option maxRecDepth 100000 in
theorem stratalaw11_framed.calls (k : Nat) (a0 : Int) (a1 : ByteArray) (r1 : Int) (r2 : ByteArray) (w : World) (h : stratalaw11_framed.f k a0 a1 = some (r1, r2)) :
    Calls Tryd.prog 14 #[.int .i64 a0, .string a1] w fun e w' => e = .returned (.tuple #[.int .i64 r1, .string r2]) ∧ Drawn0 w w' := by
  have H : (if a0 = 2 then (stratalaw11_framed.l0 k a0 a1) else (if a0 = 3 then (some (a0, (⟨#[]⟩ : ByteArray))) else (if a1.toList = ([] : List UInt8) then (if 1 > 131072 then (if 0 ≤ 131072 then (if 131072 ≤ 1 then (some (1, (⟨#[100]⟩ : ByteArray).extract 0 131072)) else (none)) else (none)) else (some (1, (⟨#[100]⟩ : ByteArray)))) else (if (a1.size : Int) > 131072 then (if 0 ≤ 131072 then (if 131072 ≤ (a1.size : Int) then (some (1, a1.extract 0 131072)) else (none)) else (none)) else (some (1, a1)))))) = some (r1, r2) := h
  clear h
  by_cases c3 : a0 = 2
  · rw [if_pos c3] at H
    have c3b0 : (a0 == 2) = true := beq_iff_eq.mpr c3
    have c3b1 : (a0 != 2) = false := bne_eq_false_iff_eq.mpr c3
    clear c3
    have H' := Aside0.mk H
    clear H
    go_enter Tryd.func14, Tryd.ntmps14
    go_wp2
    repeat (go_quiet (fail); try go_wp2)
    go_loopg [1] k (fun kq v1 w' => ∃ (x1_1 : ByteArray), v1 = .string x1_1 ∧ Aside0 (stratalaw11_framed.l0 kq a0 x1_1 = some (r1, r2)) ∧ Aside0 (kq ≤ k) ∧ Drawn0 w w')
    case atStart => exact ⟨(a1), (by first | rfl | (simp; done) | (simp [*]; done)), H', ⟨Nat.le_refl _⟩, by repeat (first | exact Drawn0.refl _ | apply Drawn0.step)⟩
    case round =>
      clear H'
      try clear c1
      try clear p2
      try clear c3
      try clear c3b0
      try clear c3b1
      obtain ⟨x1_1, rfl, HA, HK1, ⟨m1, rfl⟩⟩ := hrel
      cases gk with
      | zero => exact absurd HA.out (by simp [stratalaw11_framed.l0])
      | succ k1 =>
        have H := HA.out
        clear HA
        simp only [stratalaw11_framed.l0] at H
        by_cases c4 : (x1_1.size : Int) < 8
        · rw [if_pos c4] at H
          have c4b0 : decide ((x1_1.size : Int) < 8) = true := decide_eq_true c4
          have c4b1 : decide (x1_1.size < 8) = true := decide_eq_true (by omega)
          clear c4
          by_cases c5 : x1_1.size + 1 ≤ 9223372036854775807
          · rw [if_pos c5] at H
            have c5b0 := eq_true c5
            have c5b1 : decide (x1_1.size + 1 ≤ 9223372036854775807) = true := decide_eq_true c5
            try have c5b2 : (9223372036854775807 < x1_1.size + 1) = False := eq_false (Nat.not_lt.2 c5)
            have H' := Aside0.mk H
            clear H
            go_wp2
            repeat (go_quiet (fail); try go_wp2)
            go_roundg k1
            case measure => have := HK1.out; omega
            case rel => exact ⟨(x1_1 ++ (⟨#[109]⟩ : ByteArray)), (by first | rfl | (simp; done) | (simp [*]; done)), H', ⟨by have := HK1.out; omega⟩, by repeat (first | exact Drawn0.refl _ | apply Drawn0.step)⟩
          · rw [if_neg c5] at H
            exact absurd H (by simp)
        · rw [if_neg c4] at H
          have c4b0 : decide ((x1_1.size : Int) < 8) = false := decide_eq_false c4
          have c4b1 : decide (x1_1.size < 8) = false := decide_eq_false (by omega)
          clear c4
          by_cases c6 : 0 ≤ 8
          · rw [if_pos c6] at H
            have c6b0 := eq_true c6
            have c6b1 : decide (0 ≤ 8) = true := decide_eq_true c6
            clear c6
            by_cases c7 : 8 ≤ (x1_1.size : Int)
            · rw [if_pos c7] at H
              have c7b0 := eq_true c7
              have c7b1 : decide (8 ≤ (x1_1.size : Int)) = true := decide_eq_true c7
              clear c7
              simp only [Option.some.injEq, Prod.mk.injEq] at H
              obtain ⟨rfl, rfl⟩ := H
              go_wp2
              repeat (go_quiet (fail); try go_wp2)
              go_ret2
              exact ⟨by first | rfl | (simp; done) | (simp [*]; done), by repeat (first | exact Drawn0.refl _ | apply Drawn0.step)⟩
            · rw [if_neg c7] at H
              exact absurd H (by simp)
          · rw [if_neg c6] at H
            exact absurd H (by simp)
  · rw [if_neg c3] at H
    have c3b0 : (a0 == 2) = false := beq_eq_false_iff_ne.mpr c3
    have c3b1 : (a0 != 2) = true := bne_iff_ne.mpr c3
    by_cases c8 : a0 = 3
    · rw [if_pos c8] at H
      have c8b0 : (a0 == 3) = true := beq_iff_eq.mpr c8
      have c8b1 : (a0 != 3) = false := bne_eq_false_iff_eq.mpr c8
      clear c8
      simp only [Option.some.injEq, Prod.mk.injEq] at H
      obtain ⟨rfl, rfl⟩ := H
      go_enter Tryd.func14, Tryd.ntmps14
      go_wp2
      repeat (go_quiet (fail); try go_wp2)
      go_ret2
      exact ⟨by first | rfl | (simp; done) | (simp [*]; done), by repeat (first | exact Drawn0.refl _ | apply Drawn0.step)⟩
    · rw [if_neg c8] at H
      have c8b0 : (a0 == 3) = false := beq_eq_false_iff_ne.mpr c8
      have c8b1 : (a0 != 3) = true := bne_iff_ne.mpr c8
      by_cases c9 : a1.toList = ([] : List UInt8)
      · rw [if_pos c9] at H
        have c9b0 : (a1.toList == ([] : List UInt8)) = true := beq_iff_eq.mpr c9
        have c9b1 : (a1.toList != ([] : List UInt8)) = false := bne_eq_false_iff_eq.mpr c9
        clear c9
        by_cases c10 : 1 > 131072
        · rw [if_pos c10] at H
          have c10b0 : decide (131072 < 1) = true := decide_eq_true c10
          clear c10
          by_cases c11 : 0 ≤ 131072
          · rw [if_pos c11] at H
            have c11b0 := eq_true c11
            have c11b1 : decide (0 ≤ 131072) = true := decide_eq_true c11
            clear c11
            by_cases c12 : 131072 ≤ 1
            · rw [if_pos c12] at H
              have c12b0 := eq_true c12
              have c12b1 : decide (131072 ≤ 1) = true := decide_eq_true c12
              clear c12
              simp only [Option.some.injEq, Prod.mk.injEq] at H
              obtain ⟨rfl, rfl⟩ := H
              go_enter Tryd.func14, Tryd.ntmps14
              go_wp2
              repeat (go_quiet (fail); try go_wp2)
              go_ret2
              exact ⟨by first | rfl | (simp; done) | (simp [*]; done), by repeat (first | exact Drawn0.refl _ | apply Drawn0.step)⟩
            · rw [if_neg c12] at H
              exact absurd H (by simp)
          · rw [if_neg c11] at H
            exact absurd H (by simp)
        · rw [if_neg c10] at H
          have c10b0 : decide (131072 < 1) = false := decide_eq_false c10
          clear c10
          simp only [Option.some.injEq, Prod.mk.injEq] at H
          obtain ⟨rfl, rfl⟩ := H
          go_enter Tryd.func14, Tryd.ntmps14
          go_wp2
          repeat (go_quiet (fail); try go_wp2)
          go_ret2
          exact ⟨by first | rfl | (simp; done) | (simp [*]; done), by repeat (first | exact Drawn0.refl _ | apply Drawn0.step)⟩
      · rw [if_neg c9] at H
        have c9b0 : (a1.toList == ([] : List UInt8)) = false := beq_eq_false_iff_ne.mpr c9
        have c9b1 : (a1.toList != ([] : List UInt8)) = true := bne_iff_ne.mpr c9
        by_cases c13 : (a1.size : Int) > 131072
        · rw [if_pos c13] at H
          have c13b0 : decide (131072 < (a1.size : Int)) = true := decide_eq_true c13
          have c13b1 : decide (131072 < a1.size) = true := decide_eq_true (by omega)
          clear c13
          by_cases c14 : 0 ≤ 131072
          · rw [if_pos c14] at H
            have c14b0 := eq_true c14
            have c14b1 : decide (0 ≤ 131072) = true := decide_eq_true c14
            clear c14
            by_cases c15 : 131072 ≤ (a1.size : Int)
            · rw [if_pos c15] at H
              have c15b0 := eq_true c15
              have c15b1 : decide (131072 ≤ (a1.size : Int)) = true := decide_eq_true c15
              clear c15
              simp only [Option.some.injEq, Prod.mk.injEq] at H
              obtain ⟨rfl, rfl⟩ := H
              go_enter Tryd.func14, Tryd.ntmps14
              go_wp2
              repeat (go_quiet (fail); try go_wp2)
              go_ret2
              exact ⟨by first | rfl | (simp; done) | (simp [*]; done), by repeat (first | exact Drawn0.refl _ | apply Drawn0.step)⟩
            · rw [if_neg c15] at H
              exact absurd H (by simp)
          · rw [if_neg c14] at H
            exact absurd H (by simp)
        · rw [if_neg c13] at H
          have c13b0 : decide (131072 < (a1.size : Int)) = false := decide_eq_false c13
          have c13b1 : decide (131072 < a1.size) = false := decide_eq_false (by omega)
          clear c13
          simp only [Option.some.injEq, Prod.mk.injEq] at H
          obtain ⟨rfl, rfl⟩ := H
          go_enter Tryd.func14, Tryd.ntmps14
          go_wp2
          repeat (go_quiet (fail); try go_wp2)
          go_ret2
          exact ⟨by first | rfl | (simp; done) | (simp [*]; done), by repeat (first | exact Drawn0.refl _ | apply Drawn0.step)⟩

/-! ### stratalaw11_numbered: function 15 -/
def stratalaw11_numbered.f (a0 : Int) : Option (Int) := if a0 < 1 then (some 1) else (if a0 > 4611686018427387903 then (some 1) else (some a0))
set_option maxHeartbeats 8000000 in
set_option maxRecDepth 100000 in
theorem stratalaw11_numbered.calls (a0 : Int) (r : Int) (w : World) (h : stratalaw11_numbered.f a0 = some r) :
    Calls Tryd.prog 15 #[.int .u64 a0] w fun e w' => e = .returned (.int .u64 r) ∧ Drawn0 w w' := by
  have H : (if a0 < 1 then (some 1) else (if a0 > 4611686018427387903 then (some 1) else (some a0))) = some r := h
  clear h
  by_cases c2 : a0 < 1
  · rw [if_pos c2] at H
    have c2b0 : decide (a0 < 1) = true := decide_eq_true c2
    clear c2
    obtain rfl := Option.some.inj H
    go_enter Tryd.func15, Tryd.ntmps15
    go_wp2
    go_ret
    exact ⟨by first | rfl | (simp; done) | (simp [*]; done), by repeat (first | exact Drawn0.refl _ | apply Drawn0.step)⟩
  · rw [if_neg c2] at H
    have c2b0 : decide (a0 < 1) = false := decide_eq_false c2
    clear c2
    by_cases c3 : a0 > 4611686018427387903
    · rw [if_pos c3] at H
      have c3b0 : decide (4611686018427387903 < a0) = true := decide_eq_true c3
      clear c3
      obtain rfl := Option.some.inj H
      go_enter Tryd.func15, Tryd.ntmps15
      go_wp2
      go_ret
      exact ⟨by first | rfl | (simp; done) | (simp [*]; done), by repeat (first | exact Drawn0.refl _ | apply Drawn0.step)⟩
    · rw [if_neg c3] at H
      have c3b0 : decide (4611686018427387903 < a0) = false := decide_eq_false c3
      clear c3
      obtain rfl := Option.some.inj H
      go_enter Tryd.func15, Tryd.ntmps15
      go_wp2
      go_ret
      exact ⟨by first | rfl | (simp; done) | (simp [*]; done), by repeat (first | exact Drawn0.refl _ | apply Drawn0.step)⟩

end Go.Proofs.YtdepngppnbobdaaDoor.PFm
