-- Written by the kit's print.py, called by xprint.py (a helper of this repo); some functions are taken from texts of this seat that were proved by hand.
import Derived.Test.YtbekgkikgcmmaaaDoorPBasex0
import Derived.Test.YtbekgkikgcmmaaaDoorPBasex1
import Derived.Test.YtbekgkikgcmmaaaDoorPBasex2
namespace Go.Proofs.YtbekgkikgcmmaaaDoor.PBase
open Go.RowKit Go.Proofs.YtbekgkikgcmmaaaDoor.HUv Go.Proofs.YtbekgkikgcmmaaaDoorW.PrintWords Go.Proofs.YtbekgkikgcmmaaaDoorW.PrintLast Go.Proofs.YtbekgkikgcmmaaaDoorW.PrintMore
attribute [local go_sem] max2_int min2_int max_two min_two max_three min_three max_four min_four   -- for this text's walks alone
set_option linter.unusedVariables false
set_option linter.unusedSimpArgs false

/-! ### bits_bounded: function 78 -/
def bits_bounded.f (k : Nat) (a0 : ByteArray) (a1 : Int) (a2 : Int) : Option (ByteArray × Int × Int) := (bits_ReadUvarint.f k a0 a1).bind fun bt117 => (if bt117.2.2 = 0 then (if bt117.1 > a2 then (some ((⟨#[]⟩ : ByteArray), a1, 4)) else (if bt117.1 > (IntKind.u64.wrap (wrap64 ((a0.size : Int) - bt117.2.1))) then (some ((⟨#[]⟩ : ByteArray), a1, 11)) else (if 0 ≤ bt117.2.1 then (if bt117.2.1 ≤ (wrap64 (bt117.2.1 + (wrap64 (bt117.1)))) then (if (wrap64 (bt117.2.1 + (wrap64 (bt117.1)))) ≤ (a0.size : Int) then (some (a0.extract (bt117.2.1 : Int).toNat ((wrap64 (bt117.2.1 + (wrap64 (bt117.1)))) : Int).toNat, wrap64 (bt117.2.1 + (wrap64 (bt117.1))), 0)) else (none)) else (none)) else (none)))) else (some ((⟨#[]⟩ : ByteArray), a1, bt117.2.2)))
theorem bits_bounded.mono : ∀ a0 a1 a2 k, LeO (bits_bounded.f k a0 a1 a2) (bits_bounded.f (k + 1) a0 a1 a2) := by
  intro a0 a1 a2 k
  unfold bits_bounded.f
  repeat' first
      | (with_reducible exact bits_ReadUvarint.mono _ _ _)
      | (with_reducible exact LeO.refl _)
      | (with_reducible exact LeO.none _)
      | (with_reducible refine LeO.ite ?_ ?_)
      | (with_reducible refine LeO.bind ?_ (fun _ => ?_))
      | exact bits_ReadUvarint.mono _ _ _
      | exact LeO.none _
      | refine LeO.ite ?_ ?_
      | refine LeO.bind ?_ (fun _ => ?_)
set_option maxHeartbeats 8000000 in
set_option maxRecDepth 100000 in
theorem bits_bounded.calls (k : Nat) (a0 : ByteArray) (a1 : Int) (a2 : Int) (r1 : ByteArray) (r2 : Int) (r3 : Int) (w : World) (h : bits_bounded.f k a0 a1 a2 = some (r1, r2, r3)) :
    Calls Tryd.prog 78 #[.string a0, .int .i64 a1, .int .u64 a2] w fun e w' => e = .returned (.tuple #[.string r1, .int .i64 r2, .int .i64 r3]) ∧ Drawn0 w w' := by
  have H : ((bits_ReadUvarint.f k a0 a1).bind fun bt117 => (if bt117.2.2 = 0 then (if bt117.1 > a2 then (some ((⟨#[]⟩ : ByteArray), a1, 4)) else (if bt117.1 > (IntKind.u64.wrap (wrap64 ((a0.size : Int) - bt117.2.1))) then (some ((⟨#[]⟩ : ByteArray), a1, 11)) else (if 0 ≤ bt117.2.1 then (if bt117.2.1 ≤ (wrap64 (bt117.2.1 + (wrap64 (bt117.1)))) then (if (wrap64 (bt117.2.1 + (wrap64 (bt117.1)))) ≤ (a0.size : Int) then (some (a0.extract (bt117.2.1 : Int).toNat ((wrap64 (bt117.2.1 + (wrap64 (bt117.1)))) : Int).toNat, wrap64 (bt117.2.1 + (wrap64 (bt117.1))), 0)) else (none)) else (none)) else (none)))) else (some ((⟨#[]⟩ : ByteArray), a1, bt117.2.2)))) = some (r1, r2, r3) := h
  clear h
  replace H := Option.bind_eq_some_iff.mp H
  obtain ⟨⟨t117, t118, t119⟩, A40, H⟩ := H
  replace H : (if t119 = 0 then (if t117 > a2 then (some ((⟨#[]⟩ : ByteArray), a1, 4)) else (if t117 > (IntKind.u64.wrap (wrap64 ((a0.size : Int) - t118))) then (some ((⟨#[]⟩ : ByteArray), a1, 11)) else (if 0 ≤ t118 then (if t118 ≤ (wrap64 (t118 + (wrap64 (t117)))) then (if (wrap64 (t118 + (wrap64 (t117)))) ≤ (a0.size : Int) then (some (a0.extract (t118 : Int).toNat ((wrap64 (t118 + (wrap64 (t117)))) : Int).toNat, wrap64 (t118 + (wrap64 (t117))), 0)) else (none)) else (none)) else (none)))) else (some ((⟨#[]⟩ : ByteArray), a1, t119))) = some (r1, r2, r3) := H
  have A4 := Aside0.mk A40
  clear A40
  by_cases c5 : t119 = 0
  · rw [if_pos c5] at H
    have c5b0 : (t119 == 0) = true := beq_iff_eq.mpr c5
    have c5b1 : (t119 != 0) = false := bne_eq_false_iff_eq.mpr c5
    clear c5
    by_cases c6 : t117 > a2
    · rw [if_pos c6] at H
      have c6b0 : decide (a2 < t117) = true := decide_eq_true c6
      clear c6
      simp only [Option.some.injEq, Prod.mk.injEq] at H
      obtain ⟨rfl, rfl, rfl⟩ := H
      go_enter Tryd.func78, Tryd.ntmps78
      go_wp2_with (first | ((with_reducible refine gate_callee (f := 24) rfl ?_); refine goesL_ (some 16) rfl rfl Tryd.func24 (by kernel_rfl) rfl #[.string a0, .int .i64 a1] rfl (by (try simp only [List.map_toArray, List.map_cons, List.map_nil]); first | done | rfl | (simp only [List.length_drop, List.length_take]; rfl)) ?_; (with_reducible refine (bits_ReadUvarint.calls k a0 a1 t117 t118 t119 _ A4.out).mono ?_); rintro e w' ⟨rfl, ⟨nd, rfl⟩⟩; refine ⟨_, rfl, ?_⟩))
      go_ret3
      exact ⟨by first | rfl | (simp; done) | (simp [*]; done), by repeat (first | exact Drawn0.refl _ | apply Drawn0.step)⟩
    · rw [if_neg c6] at H
      have c6b0 : decide (a2 < t117) = false := decide_eq_false c6
      clear c6
      by_cases c7 : t117 > (IntKind.u64.wrap (wrap64 ((a0.size : Int) - t118)))
      · rw [if_pos c7] at H
        have c7b0 : decide ((IntKind.u64.wrap (wrap64 ((a0.size : Int) - t118))) < t117) = true := decide_eq_true c7
        clear c7
        simp only [Option.some.injEq, Prod.mk.injEq] at H
        obtain ⟨rfl, rfl, rfl⟩ := H
        go_enter Tryd.func78, Tryd.ntmps78
        go_wp2_with (first | ((with_reducible refine gate_callee (f := 24) rfl ?_); refine goesL_ (some 16) rfl rfl Tryd.func24 (by kernel_rfl) rfl #[.string a0, .int .i64 a1] rfl (by (try simp only [List.map_toArray, List.map_cons, List.map_nil]); first | done | rfl | (simp only [List.length_drop, List.length_take]; rfl)) ?_; (with_reducible refine (bits_ReadUvarint.calls k a0 a1 t117 t118 t119 _ A4.out).mono ?_); rintro e w' ⟨rfl, ⟨nd, rfl⟩⟩; refine ⟨_, rfl, ?_⟩))
        go_ret3
        exact ⟨by first | rfl | (simp; done) | (simp [*]; done), by repeat (first | exact Drawn0.refl _ | apply Drawn0.step)⟩
      · rw [if_neg c7] at H
        have c7b0 : decide ((IntKind.u64.wrap (wrap64 ((a0.size : Int) - t118))) < t117) = false := decide_eq_false c7
        clear c7
        by_cases c8 : 0 ≤ t118
        · rw [if_pos c8] at H
          have c8b0 := eq_true c8
          have c8b1 : decide (0 ≤ t118) = true := decide_eq_true c8
          clear c8
          by_cases c9 : t118 ≤ (wrap64 (t118 + (wrap64 (t117))))
          · rw [if_pos c9] at H
            have c9b0 := eq_true c9
            have c9b1 : decide (t118 ≤ (wrap64 (t118 + (wrap64 (t117))))) = true := decide_eq_true c9
            by_cases c10 : (wrap64 (t118 + (wrap64 (t117)))) ≤ (a0.size : Int)
            · rw [if_pos c10] at H
              have c10b0 := eq_true c10
              have c10b1 : decide ((wrap64 (t118 + (wrap64 (t117)))) ≤ (a0.size : Int)) = true := decide_eq_true c10
              simp only [Option.some.injEq, Prod.mk.injEq] at H
              obtain ⟨rfl, rfl, rfl⟩ := H
              go_enter Tryd.func78, Tryd.ntmps78
              go_wp2_with (first | ((with_reducible refine gate_callee (f := 24) rfl ?_); refine goesL_ (some 16) rfl rfl Tryd.func24 (by kernel_rfl) rfl #[.string a0, .int .i64 a1] rfl (by (try simp only [List.map_toArray, List.map_cons, List.map_nil]); first | done | rfl | (simp only [List.length_drop, List.length_take]; rfl)) ?_; (with_reducible refine (bits_ReadUvarint.calls k a0 a1 t117 t118 t119 _ A4.out).mono ?_); rintro e w' ⟨rfl, ⟨nd, rfl⟩⟩; refine ⟨_, rfl, ?_⟩))
              go_ret3
              exact ⟨by first | rfl | (simp; done) | (simp [*]; done), by repeat (first | exact Drawn0.refl _ | apply Drawn0.step)⟩
            · rw [if_neg c10] at H
              exact absurd H (by simp)
          · rw [if_neg c9] at H
            exact absurd H (by simp)
        · rw [if_neg c8] at H
          exact absurd H (by simp)
  · rw [if_neg c5] at H
    have c5b0 : (t119 == 0) = false := beq_eq_false_iff_ne.mpr c5
    have c5b1 : (t119 != 0) = true := bne_iff_ne.mpr c5
    simp only [Option.some.injEq, Prod.mk.injEq] at H
    obtain ⟨rfl, rfl, rfl⟩ := H
    go_enter Tryd.func78, Tryd.ntmps78
    go_wp2_with (first | ((with_reducible refine gate_callee (f := 24) rfl ?_); refine goesL_ (some 16) rfl rfl Tryd.func24 (by kernel_rfl) rfl #[.string a0, .int .i64 a1] rfl (by (try simp only [List.map_toArray, List.map_cons, List.map_nil]); first | done | rfl | (simp only [List.length_drop, List.length_take]; rfl)) ?_; (with_reducible refine (bits_ReadUvarint.calls k a0 a1 t117 t118 t119 _ A4.out).mono ?_); rintro e w' ⟨rfl, ⟨nd, rfl⟩⟩; refine ⟨_, rfl, ?_⟩))
    go_ret3
    exact ⟨by first | rfl | (simp; done) | (simp [*]; done), by repeat (first | exact Drawn0.refl _ | apply Drawn0.step)⟩

/-! ### strataref01_readText: function 74 -/
def strataref01_readText.f (k : Nat) (a0 : ByteArray) (a1 : Int) (a2 : Int) : Option (ByteArray × Int × Int) := (strataref01_ReadUvarint.f k a0 a1).bind fun bt120 => (if bt120.2.2 = 0 then (if bt120.1 > a2 then (some ((⟨#[]⟩ : ByteArray), a1, 4)) else (if (wrap64 ((a0.size : Int) - bt120.2.1)) < (wrap64 (bt120.1)) then (some ((⟨#[]⟩ : ByteArray), a1, 11)) else (if 0 ≤ bt120.2.1 then (if bt120.2.1 ≤ (wrap64 (bt120.2.1 + (wrap64 (bt120.1)))) then (if (wrap64 (bt120.2.1 + (wrap64 (bt120.1)))) ≤ (a0.size : Int) then (some (a0.extract (bt120.2.1 : Int).toNat ((wrap64 (bt120.2.1 + (wrap64 (bt120.1)))) : Int).toNat, wrap64 (bt120.2.1 + (wrap64 (bt120.1))), 0)) else (none)) else (none)) else (none)))) else (some ((⟨#[]⟩ : ByteArray), a1, bt120.2.2)))
theorem strataref01_readText.mono : ∀ a0 a1 a2 k, LeO (strataref01_readText.f k a0 a1 a2) (strataref01_readText.f (k + 1) a0 a1 a2) := by
  intro a0 a1 a2 k
  unfold strataref01_readText.f
  repeat' first
      | (with_reducible exact strataref01_ReadUvarint.mono _ _ _)
      | (with_reducible exact LeO.refl _)
      | (with_reducible exact LeO.none _)
      | (with_reducible refine LeO.ite ?_ ?_)
      | (with_reducible refine LeO.bind ?_ (fun _ => ?_))
      | exact strataref01_ReadUvarint.mono _ _ _
      | exact LeO.none _
      | refine LeO.ite ?_ ?_
      | refine LeO.bind ?_ (fun _ => ?_)
set_option maxHeartbeats 8000000 in
set_option maxRecDepth 100000 in
theorem strataref01_readText.calls (k : Nat) (a0 : ByteArray) (a1 : Int) (a2 : Int) (r1 : ByteArray) (r2 : Int) (r3 : Int) (w : World) (h : strataref01_readText.f k a0 a1 a2 = some (r1, r2, r3)) :
    Calls Tryd.prog 74 #[.string a0, .int .i64 a1, .int .u64 a2] w fun e w' => e = .returned (.tuple #[.string r1, .int .i64 r2, .int .i64 r3]) ∧ Drawn0 w w' := by
  have H : ((strataref01_ReadUvarint.f k a0 a1).bind fun bt120 => (if bt120.2.2 = 0 then (if bt120.1 > a2 then (some ((⟨#[]⟩ : ByteArray), a1, 4)) else (if (wrap64 ((a0.size : Int) - bt120.2.1)) < (wrap64 (bt120.1)) then (some ((⟨#[]⟩ : ByteArray), a1, 11)) else (if 0 ≤ bt120.2.1 then (if bt120.2.1 ≤ (wrap64 (bt120.2.1 + (wrap64 (bt120.1)))) then (if (wrap64 (bt120.2.1 + (wrap64 (bt120.1)))) ≤ (a0.size : Int) then (some (a0.extract (bt120.2.1 : Int).toNat ((wrap64 (bt120.2.1 + (wrap64 (bt120.1)))) : Int).toNat, wrap64 (bt120.2.1 + (wrap64 (bt120.1))), 0)) else (none)) else (none)) else (none)))) else (some ((⟨#[]⟩ : ByteArray), a1, bt120.2.2)))) = some (r1, r2, r3) := h
  clear h
  replace H := Option.bind_eq_some_iff.mp H
  obtain ⟨⟨t120, t121, t122⟩, A40, H⟩ := H
  replace H : (if t122 = 0 then (if t120 > a2 then (some ((⟨#[]⟩ : ByteArray), a1, 4)) else (if (wrap64 ((a0.size : Int) - t121)) < (wrap64 (t120)) then (some ((⟨#[]⟩ : ByteArray), a1, 11)) else (if 0 ≤ t121 then (if t121 ≤ (wrap64 (t121 + (wrap64 (t120)))) then (if (wrap64 (t121 + (wrap64 (t120)))) ≤ (a0.size : Int) then (some (a0.extract (t121 : Int).toNat ((wrap64 (t121 + (wrap64 (t120)))) : Int).toNat, wrap64 (t121 + (wrap64 (t120))), 0)) else (none)) else (none)) else (none)))) else (some ((⟨#[]⟩ : ByteArray), a1, t122))) = some (r1, r2, r3) := H
  have A4 := Aside0.mk A40
  clear A40
  by_cases c5 : t122 = 0
  · rw [if_pos c5] at H
    have c5b0 : (t122 == 0) = true := beq_iff_eq.mpr c5
    have c5b1 : (t122 != 0) = false := bne_eq_false_iff_eq.mpr c5
    clear c5
    by_cases c6 : t120 > a2
    · rw [if_pos c6] at H
      have c6b0 : decide (a2 < t120) = true := decide_eq_true c6
      clear c6
      simp only [Option.some.injEq, Prod.mk.injEq] at H
      obtain ⟨rfl, rfl, rfl⟩ := H
      go_enter Tryd.func74, Tryd.ntmps74
      go_wp2_with (first | ((with_reducible refine gate_callee (f := 82) rfl ?_); refine goesL_ (some 15) rfl rfl Tryd.func82 (by kernel_rfl) rfl #[.string a0, .int .i64 a1] rfl (by (try simp only [List.map_toArray, List.map_cons, List.map_nil]); first | done | rfl | (simp only [List.length_drop, List.length_take]; rfl)) ?_; (with_reducible refine (strataref01_ReadUvarint.calls k a0 a1 t120 t121 t122 _ A4.out).mono ?_); rintro e w' ⟨rfl, ⟨nd, rfl⟩⟩; refine ⟨_, rfl, ?_⟩))
      go_ret3
      exact ⟨by first | rfl | (simp; done) | (simp [*]; done), by repeat (first | exact Drawn0.refl _ | apply Drawn0.step)⟩
    · rw [if_neg c6] at H
      have c6b0 : decide (a2 < t120) = false := decide_eq_false c6
      clear c6
      by_cases c7 : (wrap64 ((a0.size : Int) - t121)) < (wrap64 (t120))
      · rw [if_pos c7] at H
        have c7b0 : decide ((wrap64 ((a0.size : Int) - t121)) < (wrap64 (t120))) = true := decide_eq_true c7
        clear c7
        simp only [Option.some.injEq, Prod.mk.injEq] at H
        obtain ⟨rfl, rfl, rfl⟩ := H
        go_enter Tryd.func74, Tryd.ntmps74
        go_wp2_with (first | ((with_reducible refine gate_callee (f := 82) rfl ?_); refine goesL_ (some 15) rfl rfl Tryd.func82 (by kernel_rfl) rfl #[.string a0, .int .i64 a1] rfl (by (try simp only [List.map_toArray, List.map_cons, List.map_nil]); first | done | rfl | (simp only [List.length_drop, List.length_take]; rfl)) ?_; (with_reducible refine (strataref01_ReadUvarint.calls k a0 a1 t120 t121 t122 _ A4.out).mono ?_); rintro e w' ⟨rfl, ⟨nd, rfl⟩⟩; refine ⟨_, rfl, ?_⟩))
        go_ret3
        exact ⟨by first | rfl | (simp; done) | (simp [*]; done), by repeat (first | exact Drawn0.refl _ | apply Drawn0.step)⟩
      · rw [if_neg c7] at H
        have c7b0 : decide ((wrap64 ((a0.size : Int) - t121)) < (wrap64 (t120))) = false := decide_eq_false c7
        clear c7
        by_cases c8 : 0 ≤ t121
        · rw [if_pos c8] at H
          have c8b0 := eq_true c8
          have c8b1 : decide (0 ≤ t121) = true := decide_eq_true c8
          clear c8
          by_cases c9 : t121 ≤ (wrap64 (t121 + (wrap64 (t120))))
          · rw [if_pos c9] at H
            have c9b0 := eq_true c9
            have c9b1 : decide (t121 ≤ (wrap64 (t121 + (wrap64 (t120))))) = true := decide_eq_true c9
            by_cases c10 : (wrap64 (t121 + (wrap64 (t120)))) ≤ (a0.size : Int)
            · rw [if_pos c10] at H
              have c10b0 := eq_true c10
              have c10b1 : decide ((wrap64 (t121 + (wrap64 (t120)))) ≤ (a0.size : Int)) = true := decide_eq_true c10
              simp only [Option.some.injEq, Prod.mk.injEq] at H
              obtain ⟨rfl, rfl, rfl⟩ := H
              go_enter Tryd.func74, Tryd.ntmps74
              go_wp2_with (first | ((with_reducible refine gate_callee (f := 82) rfl ?_); refine goesL_ (some 15) rfl rfl Tryd.func82 (by kernel_rfl) rfl #[.string a0, .int .i64 a1] rfl (by (try simp only [List.map_toArray, List.map_cons, List.map_nil]); first | done | rfl | (simp only [List.length_drop, List.length_take]; rfl)) ?_; (with_reducible refine (strataref01_ReadUvarint.calls k a0 a1 t120 t121 t122 _ A4.out).mono ?_); rintro e w' ⟨rfl, ⟨nd, rfl⟩⟩; refine ⟨_, rfl, ?_⟩))
              go_ret3
              exact ⟨by first | rfl | (simp; done) | (simp [*]; done), by repeat (first | exact Drawn0.refl _ | apply Drawn0.step)⟩
            · rw [if_neg c10] at H
              exact absurd H (by simp)
          · rw [if_neg c9] at H
            exact absurd H (by simp)
        · rw [if_neg c8] at H
          exact absurd H (by simp)
  · rw [if_neg c5] at H
    have c5b0 : (t122 == 0) = false := beq_eq_false_iff_ne.mpr c5
    have c5b1 : (t122 != 0) = true := bne_iff_ne.mpr c5
    simp only [Option.some.injEq, Prod.mk.injEq] at H
    obtain ⟨rfl, rfl, rfl⟩ := H
    go_enter Tryd.func74, Tryd.ntmps74
    go_wp2_with (first | ((with_reducible refine gate_callee (f := 82) rfl ?_); refine goesL_ (some 15) rfl rfl Tryd.func82 (by kernel_rfl) rfl #[.string a0, .int .i64 a1] rfl (by (try simp only [List.map_toArray, List.map_cons, List.map_nil]); first | done | rfl | (simp only [List.length_drop, List.length_take]; rfl)) ?_; (with_reducible refine (strataref01_ReadUvarint.calls k a0 a1 t120 t121 t122 _ A4.out).mono ?_); rintro e w' ⟨rfl, ⟨nd, rfl⟩⟩; refine ⟨_, rfl, ?_⟩))
    go_ret3
    exact ⟨by first | rfl | (simp; done) | (simp [*]; done), by repeat (first | exact Drawn0.refl _ | apply Drawn0.step)⟩

end Go.Proofs.YtbekgkikgcmmaaaDoor.PBase
