-- PRINTED BY print.sh 35421559b90ae4d0a3588c463048766b98c2df88dd9212a6774a882060cdf62d: not written by this session
import Derived.Test.YtnanepgcaefhcaaPBitsWordsx0
import Derived.Test.YtnanepgcaefhcaaPBitsWordsx1
namespace Go.Proofs.Ytnanepgcaefhcaa.PBitsWords
open Go.RowKit Go.Proofs.YtnanepgcaefhcaaW.PrintWords Go.Proofs.YtnanepgcaefhcaaW.PrintLast Go.Proofs.YtnanepgcaefhcaaW.PrintMore
attribute [local go_sem] max2_int min2_int max_two min_two max_three min_three max_four min_four   -- for this text's walks alone
set_option linter.unusedVariables false
set_option linter.unusedSimpArgs false

/-! ### stratalaw01_BitsWords: function 8 -/
mutual
def stratalaw01_BitsWords.j0 : Nat → Int → Int → Bool → Int → Bool → Option (Bool)
  | 0, _, _, _, _, _ => none
  | k + 1, x0, x1, x2, x3, x41 => if x41 = true then (some false) else ((bits_TxnWord.f x0).bind fun bt106 => ((strataref01_TxnWord.f x0).bind fun bt108 => (if bt106.1 = bt108.1 then ((stratalaw01_num.f bt106.2).bind fun t110 => (stratalaw01_BitsWords.j1 k x1 x2 x3 (t110 != bt108.2))) else (stratalaw01_BitsWords.j1 k x1 x2 x3 true))))
def stratalaw01_BitsWords.j1 : Nat → Int → Bool → Int → Bool → Option (Bool)
  | 0, _, _, _, _ => none
  | k + 1, x1, x2, x3, x60 => if x60 = true then (some false) else ((bits_Split.f x3).bind fun bt111 => ((strataref01_Split.f x3).bind fun bt113 => (if bt111.1 = bt113.1 then (stratalaw01_BitsWords.j2 k x1 x2 x3 (bt111.2 != bt113.2)) else (stratalaw01_BitsWords.j2 k x1 x2 x3 true))))
def stratalaw01_BitsWords.j2 : Nat → Int → Bool → Int → Bool → Option (Bool)
  | 0, _, _, _, _ => none
  | k + 1, x1, x2, x3, x78 => if x78 = true then (some false) else ((bits_Link.f k x1 x2).bind fun bt115 => ((strataref01_Link.f k x1 x2).bind fun bt117 => (if bt115.1 = bt117.1 then ((stratalaw01_num.f bt115.2).bind fun t119 => (stratalaw01_BitsWords.j3 k x3 (t119 != bt117.2))) else (stratalaw01_BitsWords.j3 k x3 true))))
def stratalaw01_BitsWords.j3 : Nat → Int → Bool → Option (Bool)
  | 0, _, _ => none
  | k + 1, x3, x99 => if x99 = true then (some false) else ((bits_OfLink.f x3).bind fun bt120 => ((strataref01_OfLink.f x3).bind fun bt123 => (if bt120.1 = bt123.1 then (if (bt120.2.1 == bt123.2.1) = true then ((stratalaw01_num.f bt120.2.2).bind fun t126 => (some (t126 == bt123.2.2))) else (some false)) else (some false))))
end
def stratalaw01_BitsWords.f (k : Nat) (a0 : Int) (a1 : Int) (a2 : Bool) (a3 : Int) : Option (Bool) := (bits_TimeWord.f a0).bind fun bt101 => ((strataref01_TimeWord.f a0).bind fun bt103 => (if bt101.1 = bt103.1 then ((stratalaw01_num.f bt101.2).bind fun t105 => (stratalaw01_BitsWords.j0 k a0 a1 a2 a3 (t105 != bt103.2))) else (stratalaw01_BitsWords.j0 k a0 a1 a2 a3 true)))
theorem stratalaw01_BitsWords.mono_l : ∀ k, (∀ y0 y1 y2 y3 y4, LeO (stratalaw01_BitsWords.j0 k y0 y1 y2 y3 y4) (stratalaw01_BitsWords.j0 (k + 1) y0 y1 y2 y3 y4)) ∧ (∀ y0 y1 y2 y3, LeO (stratalaw01_BitsWords.j1 k y0 y1 y2 y3) (stratalaw01_BitsWords.j1 (k + 1) y0 y1 y2 y3)) ∧ (∀ y0 y1 y2 y3, LeO (stratalaw01_BitsWords.j2 k y0 y1 y2 y3) (stratalaw01_BitsWords.j2 (k + 1) y0 y1 y2 y3)) ∧ (∀ y0 y1, LeO (stratalaw01_BitsWords.j3 k y0 y1) (stratalaw01_BitsWords.j3 (k + 1) y0 y1))
  | 0 => ⟨fun _ _ _ _ _ r h => by simp [stratalaw01_BitsWords.j0] at h, fun _ _ _ _ r h => by simp [stratalaw01_BitsWords.j1] at h, fun _ _ _ _ r h => by simp [stratalaw01_BitsWords.j2] at h, fun _ _ r h => by simp [stratalaw01_BitsWords.j3] at h⟩
  | k + 1 => by
    obtain ⟨ih0, ih1, ih2, ih3⟩ := stratalaw01_BitsWords.mono_l k
    refine ⟨?_, ?_, ?_, ?_⟩
    · intro y0 y1 y2 y3 y4
      unfold stratalaw01_BitsWords.j0
      repeat' first
      | (with_reducible exact ih0 _ _ _ _ _)
      | (with_reducible exact ih1 _ _ _ _)
      | (with_reducible exact ih2 _ _ _ _)
      | (with_reducible exact ih3 _ _)
      | (with_reducible exact bits_Link.mono _ _ _)
      | (with_reducible exact strataref01_Link.mono _ _ _)
      | (with_reducible exact LeO.refl _)
      | (with_reducible exact LeO.none _)
      | (with_reducible refine LeO.ite ?_ ?_)
      | (with_reducible refine LeO.bind ?_ (fun _ => ?_))
      | exact ih0 _ _ _ _ _
      | exact ih1 _ _ _ _
      | exact ih2 _ _ _ _
      | exact ih3 _ _
      | exact bits_Link.mono _ _ _
      | exact strataref01_Link.mono _ _ _
      | exact LeO.none _
      | refine LeO.ite ?_ ?_
      | refine LeO.bind ?_ (fun _ => ?_)
    · intro y0 y1 y2 y3
      unfold stratalaw01_BitsWords.j1
      repeat' first
      | (with_reducible exact ih0 _ _ _ _ _)
      | (with_reducible exact ih1 _ _ _ _)
      | (with_reducible exact ih2 _ _ _ _)
      | (with_reducible exact ih3 _ _)
      | (with_reducible exact bits_Link.mono _ _ _)
      | (with_reducible exact strataref01_Link.mono _ _ _)
      | (with_reducible exact LeO.refl _)
      | (with_reducible exact LeO.none _)
      | (with_reducible refine LeO.ite ?_ ?_)
      | (with_reducible refine LeO.bind ?_ (fun _ => ?_))
      | exact ih0 _ _ _ _ _
      | exact ih1 _ _ _ _
      | exact ih2 _ _ _ _
      | exact ih3 _ _
      | exact bits_Link.mono _ _ _
      | exact strataref01_Link.mono _ _ _
      | exact LeO.none _
      | refine LeO.ite ?_ ?_
      | refine LeO.bind ?_ (fun _ => ?_)
    · intro y0 y1 y2 y3
      unfold stratalaw01_BitsWords.j2
      repeat' first
      | (with_reducible exact ih0 _ _ _ _ _)
      | (with_reducible exact ih1 _ _ _ _)
      | (with_reducible exact ih2 _ _ _ _)
      | (with_reducible exact ih3 _ _)
      | (with_reducible exact bits_Link.mono _ _ _)
      | (with_reducible exact strataref01_Link.mono _ _ _)
      | (with_reducible exact LeO.refl _)
      | (with_reducible exact LeO.none _)
      | (with_reducible refine LeO.ite ?_ ?_)
      | (with_reducible refine LeO.bind ?_ (fun _ => ?_))
      | exact ih0 _ _ _ _ _
      | exact ih1 _ _ _ _
      | exact ih2 _ _ _ _
      | exact ih3 _ _
      | exact bits_Link.mono _ _ _
      | exact strataref01_Link.mono _ _ _
      | exact LeO.none _
      | refine LeO.ite ?_ ?_
      | refine LeO.bind ?_ (fun _ => ?_)
    · intro y0 y1
      unfold stratalaw01_BitsWords.j3
      repeat' first
      | (with_reducible exact ih0 _ _ _ _ _)
      | (with_reducible exact ih1 _ _ _ _)
      | (with_reducible exact ih2 _ _ _ _)
      | (with_reducible exact ih3 _ _)
      | (with_reducible exact bits_Link.mono _ _ _)
      | (with_reducible exact strataref01_Link.mono _ _ _)
      | (with_reducible exact LeO.refl _)
      | (with_reducible exact LeO.none _)
      | (with_reducible refine LeO.ite ?_ ?_)
      | (with_reducible refine LeO.bind ?_ (fun _ => ?_))
      | exact ih0 _ _ _ _ _
      | exact ih1 _ _ _ _
      | exact ih2 _ _ _ _
      | exact ih3 _ _
      | exact bits_Link.mono _ _ _
      | exact strataref01_Link.mono _ _ _
      | exact LeO.none _
      | refine LeO.ite ?_ ?_
      | refine LeO.bind ?_ (fun _ => ?_)
theorem stratalaw01_BitsWords.mono : ∀ a0 a1 a2 a3 k, LeO (stratalaw01_BitsWords.f k a0 a1 a2 a3) (stratalaw01_BitsWords.f (k + 1) a0 a1 a2 a3) := by
  intro a0 a1 a2 a3 k
  obtain ⟨ih0, ih1, ih2, ih3⟩ := stratalaw01_BitsWords.mono_l k
  unfold stratalaw01_BitsWords.f
  repeat' first
      | (with_reducible exact ih0 _ _ _ _ _)
      | (with_reducible exact ih1 _ _ _ _)
      | (with_reducible exact ih2 _ _ _ _)
      | (with_reducible exact ih3 _ _)
      | (with_reducible exact bits_Link.mono _ _ _)
      | (with_reducible exact strataref01_Link.mono _ _ _)
      | (with_reducible exact LeO.refl _)
      | (with_reducible exact LeO.none _)
      | (with_reducible refine LeO.ite ?_ ?_)
      | (with_reducible refine LeO.bind ?_ (fun _ => ?_))
      | exact ih0 _ _ _ _ _
      | exact ih1 _ _ _ _
      | exact ih2 _ _ _ _
      | exact ih3 _ _
      | exact bits_Link.mono _ _ _
      | exact strataref01_Link.mono _ _ _
      | exact LeO.none _
      | refine LeO.ite ?_ ?_
      | refine LeO.bind ?_ (fun _ => ?_)
set_option maxHeartbeats 8000000 in
set_option maxRecDepth 100000 in
theorem stratalaw01_BitsWords.calls (k : Nat) (a0 : Int) (a1 : Int) (a2 : Bool) (a3 : Int) (r : Bool) (w : World) (h : stratalaw01_BitsWords.f k a0 a1 a2 a3 = some r) :
    Calls Try.prog 8 #[.int .u64 a0, .int .i64 a1, .bool a2, .int .u64 a3] w fun e w' => e = .returned (.bool r) ∧ Drawn0 w w' := by
  have H : ((bits_TimeWord.f a0).bind fun bt101 => ((strataref01_TimeWord.f a0).bind fun bt103 => (if bt101.1 = bt103.1 then ((stratalaw01_num.f bt101.2).bind fun t105 => (stratalaw01_BitsWords.j0 k a0 a1 a2 a3 (t105 != bt103.2))) else (stratalaw01_BitsWords.j0 k a0 a1 a2 a3 true)))) = some r := h
  clear h
  replace H := Option.bind_eq_some_iff.mp H
  obtain ⟨⟨t101, t102⟩, A50, H⟩ := H
  replace H : ((strataref01_TimeWord.f a0).bind fun bt103 => (if t101 = bt103.1 then ((stratalaw01_num.f t102).bind fun t105 => (stratalaw01_BitsWords.j0 k a0 a1 a2 a3 (t105 != bt103.2))) else (stratalaw01_BitsWords.j0 k a0 a1 a2 a3 true))) = some r := H
  have A5 := Aside0.mk A50
  clear A50
  replace H := Option.bind_eq_some_iff.mp H
  obtain ⟨⟨t103, t104⟩, A60, H⟩ := H
  replace H : (if t101 = t103 then ((stratalaw01_num.f t102).bind fun t105 => (stratalaw01_BitsWords.j0 k a0 a1 a2 a3 (t105 != t104))) else (stratalaw01_BitsWords.j0 k a0 a1 a2 a3 true)) = some r := H
  have A6 := Aside0.mk A60
  clear A60
  have HC7 := Aside0.mk H
  clear H
  go_enter Try.func8, Try.ntmps8
  go_upto_region 3 with (first | ((with_reducible refine gate_callee (f := 27) rfl ?_); refine goesL_ (some 25) rfl rfl Try.func27 (by kernel_rfl) rfl #[.int .u64 a0] rfl (by (try simp only [List.map_toArray, List.map_cons, List.map_nil]); first | done | rfl | (simp only [List.length_drop, List.length_take]; rfl)) ?_; (with_reducible refine (bits_TimeWord.calls a0 t101 t102 _ A5.out).mono ?_); rintro e w' ⟨rfl, ⟨nd, rfl⟩⟩; refine ⟨_, rfl, ?_⟩) | ((with_reducible refine gate_callee (f := 28) rfl ?_); refine goesL_ (some 30) rfl rfl Try.func28 (by kernel_rfl) rfl #[.int .u64 a0] rfl (by (try simp only [List.map_toArray, List.map_cons, List.map_nil]); first | done | rfl | (simp only [List.length_drop, List.length_take]; rfl)) ?_; (with_reducible refine (strataref01_TimeWord.calls a0 t103 t104 _ A6.out).mono ?_); rintro e w' ⟨rfl, ⟨nd, rfl⟩⟩; refine ⟨_, rfl, ?_⟩))
  (try simp only [Act.put, List.setIfInBounds_toArray, List.set_cons_zero, List.set_cons_succ])
  go_cut [41] (fun v41 wc => ∃ (kq : Nat) (x41_6 : Bool), v41 = .bool x41_6 ∧ Aside0 (stratalaw01_BitsWords.j0 kq a0 a1 a2 a3 x41_6 = some r) ∧ Aside0 (kq ≤ k) ∧ Drawn0 w wc)
  case first =>
    have H := HC7.out
    clear HC7
    by_cases c8 : t101 = t103
    · rw [if_pos c8] at H
      have c8b0 : (t101 == t103) = true := beq_iff_eq.mpr c8
      have c8b1 : (t101 != t103) = false := bne_eq_false_iff_eq.mpr c8
      clear c8
      (first | rw [c8b0] | (simp only [i64_w, i32_w]; rw [c8b0]) | skip)
      replace H := Option.bind_eq_some_iff.mp H
      obtain ⟨t105, A90, H⟩ := H
      replace H : (stratalaw01_BitsWords.j0 k a0 a1 a2 a3 (t105 != t104)) = some r := H
      have A9 := Aside0.mk A90
      clear A90
      have H' := Aside0.mk H
      clear H
      go_wp2_with (first | (go_at_call 13; (with_reducible refine (stratalaw01_num.calls t102 t105 _ A9.out).mono ?_); rintro e w' ⟨rfl, ⟨nd, rfl⟩⟩))
      go_meet
      case rel => exact ⟨_, ((t105 != t104)), (by first | rfl | (simp; done) | (simp [*]; done)), H', ⟨by first | omega | exact Nat.le_refl _⟩, by repeat (first | exact Drawn0.refl _ | apply Drawn0.step)⟩
    · rw [if_neg c8] at H
      have c8b0 : (t101 == t103) = false := beq_eq_false_iff_ne.mpr c8
      have c8b1 : (t101 != t103) = true := bne_iff_ne.mpr c8
      (first | rw [c8b0] | (simp only [i64_w, i32_w]; rw [c8b0]) | skip)
      have H' := Aside0.mk H
      clear H
      go_wp2
      go_meet
      case rel => exact ⟨_, (true), (by first | rfl | (simp; done) | (simp [*]; done)), H', ⟨by first | omega | exact Nat.le_refl _⟩, by repeat (first | exact Drawn0.refl _ | apply Drawn0.step)⟩
  case rest =>
    clear HC7
    try clear c2
    try clear p2
    try clear c8
    try clear c8b0
    try clear c8b1
    obtain ⟨kq, x41_6, rfl, HA, HJ6, ⟨mc6, rfl⟩⟩ := hcut
    cases kq with
    | zero => exact absurd HA.out (by simp [stratalaw01_BitsWords.j0])
    | succ kj6 =>
      have H := HA.out
      clear HA
      simp only [stratalaw01_BitsWords.j0] at H
      by_cases c10 : x41_6 = true
      · subst c10
        have H1 : (some false) = some r := by rw [if_pos rfl] at H; exact H
        clear H
        have H := H1
        clear H1
        obtain rfl := Option.some.inj H
        go_wp2
        go_ret
        exact ⟨by first | rfl | (simp; done) | (simp [*]; done), by repeat (first | exact Drawn0.refl _ | apply Drawn0.step)⟩
      · replace c10 := Bool.eq_false_iff.mpr c10
        subst c10
        have H1 : ((bits_TxnWord.f a0).bind fun bt106 => ((strataref01_TxnWord.f a0).bind fun bt108 => (if bt106.1 = bt108.1 then ((stratalaw01_num.f bt106.2).bind fun t110 => (stratalaw01_BitsWords.j1 kj6 a1 a2 a3 (t110 != bt108.2))) else (stratalaw01_BitsWords.j1 kj6 a1 a2 a3 true)))) = some r := by rw [if_neg (show ¬ (false = true) by decide)] at H; exact H
        clear H
        have H := H1
        clear H1
        replace H := Option.bind_eq_some_iff.mp H
        obtain ⟨⟨t106, t107⟩, A110, H⟩ := H
        replace H : ((strataref01_TxnWord.f a0).bind fun bt108 => (if t106 = bt108.1 then ((stratalaw01_num.f t107).bind fun t110 => (stratalaw01_BitsWords.j1 kj6 a1 a2 a3 (t110 != bt108.2))) else (stratalaw01_BitsWords.j1 kj6 a1 a2 a3 true))) = some r := H
        have A11 := Aside0.mk A110
        clear A110
        replace H := Option.bind_eq_some_iff.mp H
        obtain ⟨⟨t108, t109⟩, A120, H⟩ := H
        replace H : (if t106 = t108 then ((stratalaw01_num.f t107).bind fun t110 => (stratalaw01_BitsWords.j1 kj6 a1 a2 a3 (t110 != t109))) else (stratalaw01_BitsWords.j1 kj6 a1 a2 a3 true)) = some r := H
        have A12 := Aside0.mk A120
        clear A120
        have HC13 := Aside0.mk H
        clear H
        go_upto_region 7 with (first | ((with_reducible refine gate_callee (f := 29) rfl ?_); refine goesL_ (some 44) rfl rfl Try.func29 (by kernel_rfl) rfl #[.int .u64 a0] rfl (by (try simp only [List.map_toArray, List.map_cons, List.map_nil]); first | done | rfl | (simp only [List.length_drop, List.length_take]; rfl)) ?_; (with_reducible refine (bits_TxnWord.calls a0 t106 t107 _ A11.out).mono ?_); rintro e w' ⟨rfl, ⟨nd, rfl⟩⟩; refine ⟨_, rfl, ?_⟩) | ((with_reducible refine gate_callee (f := 30) rfl ?_); refine goesL_ (some 49) rfl rfl Try.func30 (by kernel_rfl) rfl #[.int .u64 a0] rfl (by (try simp only [List.map_toArray, List.map_cons, List.map_nil]); first | done | rfl | (simp only [List.length_drop, List.length_take]; rfl)) ?_; (with_reducible refine (strataref01_TxnWord.calls a0 t108 t109 _ A12.out).mono ?_); rintro e w' ⟨rfl, ⟨nd, rfl⟩⟩; refine ⟨_, rfl, ?_⟩))
        (try simp only [Act.put, List.setIfInBounds_toArray, List.set_cons_zero, List.set_cons_succ])
        go_cut [60] (fun v60 wc => ∃ (kq : Nat) (x60_12 : Bool), v60 = .bool x60_12 ∧ Aside0 (stratalaw01_BitsWords.j1 kq a1 a2 a3 x60_12 = some r) ∧ Aside0 (kq ≤ kj6) ∧ Drawn0 w wc)
        case first =>
          have H := HC13.out
          clear HC13
          by_cases c14 : t106 = t108
          · rw [if_pos c14] at H
            have c14b0 : (t106 == t108) = true := beq_iff_eq.mpr c14
            have c14b1 : (t106 != t108) = false := bne_eq_false_iff_eq.mpr c14
            clear c14
            (first | rw [c14b0] | (simp only [i64_w, i32_w]; rw [c14b0]) | skip)
            replace H := Option.bind_eq_some_iff.mp H
            obtain ⟨t110, A150, H⟩ := H
            replace H : (stratalaw01_BitsWords.j1 kj6 a1 a2 a3 (t110 != t109)) = some r := H
            have A15 := Aside0.mk A150
            clear A150
            have H' := Aside0.mk H
            clear H
            go_wp2_with (first | (go_at_call 13; (with_reducible refine (stratalaw01_num.calls t107 t110 _ A15.out).mono ?_); rintro e w' ⟨rfl, ⟨nd, rfl⟩⟩))
            go_meet
            case rel => exact ⟨_, ((t110 != t109)), (by first | rfl | (simp; done) | (simp [*]; done)), H', ⟨by have := HJ6.out; first | omega | exact Nat.le_refl _⟩, by repeat (first | exact Drawn0.refl _ | apply Drawn0.step)⟩
          · rw [if_neg c14] at H
            have c14b0 : (t106 == t108) = false := beq_eq_false_iff_ne.mpr c14
            have c14b1 : (t106 != t108) = true := bne_iff_ne.mpr c14
            (first | rw [c14b0] | (simp only [i64_w, i32_w]; rw [c14b0]) | skip)
            have H' := Aside0.mk H
            clear H
            go_wp2
            go_meet
            case rel => exact ⟨_, (true), (by first | rfl | (simp; done) | (simp [*]; done)), H', ⟨by have := HJ6.out; first | omega | exact Nat.le_refl _⟩, by repeat (first | exact Drawn0.refl _ | apply Drawn0.step)⟩
        case rest =>
          clear HC13
          try clear c1
          try clear c2
          try clear p2
          try clear c3
          try clear c6
          try clear c8
          try clear c8b0
          try clear c8b1
          try clear c10
          try clear c14
          try clear c14b0
          try clear c14b1
          try clear p2
          obtain ⟨kq, x60_12, rfl, HA, HJ12, ⟨mc12, rfl⟩⟩ := hcut
          cases kq with
          | zero => exact absurd HA.out (by simp [stratalaw01_BitsWords.j1])
          | succ kj12 =>
            have H := HA.out
            clear HA
            simp only [stratalaw01_BitsWords.j1] at H
            by_cases c16 : x60_12 = true
            · subst c16
              have H1 : (some false) = some r := by rw [if_pos rfl] at H; exact H
              clear H
              have H := H1
              clear H1
              obtain rfl := Option.some.inj H
              go_wp2
              go_ret
              exact ⟨by first | rfl | (simp; done) | (simp [*]; done), by repeat (first | exact Drawn0.refl _ | apply Drawn0.step)⟩
            · replace c16 := Bool.eq_false_iff.mpr c16
              subst c16
              have H1 : ((bits_Split.f a3).bind fun bt111 => ((strataref01_Split.f a3).bind fun bt113 => (if bt111.1 = bt113.1 then (stratalaw01_BitsWords.j2 kj12 a1 a2 a3 (bt111.2 != bt113.2)) else (stratalaw01_BitsWords.j2 kj12 a1 a2 a3 true)))) = some r := by rw [if_neg (show ¬ (false = true) by decide)] at H; exact H
              clear H
              have H := H1
              clear H1
              replace H := Option.bind_eq_some_iff.mp H
              obtain ⟨⟨t111, t112⟩, A170, H⟩ := H
              replace H : ((strataref01_Split.f a3).bind fun bt113 => (if t111 = bt113.1 then (stratalaw01_BitsWords.j2 kj12 a1 a2 a3 (t112 != bt113.2)) else (stratalaw01_BitsWords.j2 kj12 a1 a2 a3 true))) = some r := H
              have A17 := Aside0.mk A170
              clear A170
              replace H := Option.bind_eq_some_iff.mp H
              obtain ⟨⟨t113, t114⟩, A180, H⟩ := H
              replace H : (if t111 = t113 then (stratalaw01_BitsWords.j2 kj12 a1 a2 a3 (t112 != t114)) else (stratalaw01_BitsWords.j2 kj12 a1 a2 a3 true)) = some r := H
              have A18 := Aside0.mk A180
              clear A180
              have HC19 := Aside0.mk H
              clear H
              go_upto_region 11 with (first | ((with_reducible refine gate_callee (f := 31) rfl ?_); refine goesL_ (some 63) rfl rfl Try.func31 (by kernel_rfl) rfl #[.int .u64 a3] rfl (by (try simp only [List.map_toArray, List.map_cons, List.map_nil]); first | done | rfl | (simp only [List.length_drop, List.length_take]; rfl)) ?_; (with_reducible refine (bits_Split.calls a3 t111 t112 _ A17.out).mono ?_); rintro e w' ⟨rfl, ⟨nd, rfl⟩⟩; refine ⟨_, rfl, ?_⟩) | ((with_reducible refine gate_callee (f := 32) rfl ?_); refine goesL_ (some 68) rfl rfl Try.func32 (by kernel_rfl) rfl #[.int .u64 a3] rfl (by (try simp only [List.map_toArray, List.map_cons, List.map_nil]); first | done | rfl | (simp only [List.length_drop, List.length_take]; rfl)) ?_; (with_reducible refine (strataref01_Split.calls a3 t113 t114 _ A18.out).mono ?_); rintro e w' ⟨rfl, ⟨nd, rfl⟩⟩; refine ⟨_, rfl, ?_⟩))
              (try simp only [Act.put, List.setIfInBounds_toArray, List.set_cons_zero, List.set_cons_succ])
              go_cut [78] (fun v78 wc => ∃ (kq : Nat) (x78_18 : Bool), v78 = .bool x78_18 ∧ Aside0 (stratalaw01_BitsWords.j2 kq a1 a2 a3 x78_18 = some r) ∧ Aside0 (kq ≤ kj12) ∧ Drawn0 w wc)
              case first =>
                have H := HC19.out
                clear HC19
                by_cases c20 : t111 = t113
                · rw [if_pos c20] at H
                  have c20b0 : (t111 == t113) = true := beq_iff_eq.mpr c20
                  have c20b1 : (t111 != t113) = false := bne_eq_false_iff_eq.mpr c20
                  clear c20
                  (first | rw [c20b0] | (simp only [i64_w, i32_w]; rw [c20b0]) | skip)
                  have H' := Aside0.mk H
                  clear H
                  go_wp2
                  go_meet
                  case rel => exact ⟨_, ((t112 != t114)), (by first | rfl | (simp; done) | (simp [*]; done)), H', ⟨by have := HJ6.out; have := HJ12.out; first | omega | exact Nat.le_refl _⟩, by repeat (first | exact Drawn0.refl _ | apply Drawn0.step)⟩
                · rw [if_neg c20] at H
                  have c20b0 : (t111 == t113) = false := beq_eq_false_iff_ne.mpr c20
                  have c20b1 : (t111 != t113) = true := bne_iff_ne.mpr c20
                  (first | rw [c20b0] | (simp only [i64_w, i32_w]; rw [c20b0]) | skip)
                  have H' := Aside0.mk H
                  clear H
                  go_wp2
                  go_meet
                  case rel => exact ⟨_, (true), (by first | rfl | (simp; done) | (simp [*]; done)), H', ⟨by have := HJ6.out; have := HJ12.out; first | omega | exact Nat.le_refl _⟩, by repeat (first | exact Drawn0.refl _ | apply Drawn0.step)⟩
              case rest =>
                clear HC19
                try clear c1
                try clear c2
                try clear p2
                try clear c3
                try clear c6
                try clear c8
                try clear c8b0
                try clear c8b1
                try clear c10
                try clear c12
                try clear c14
                try clear c14b0
                try clear c14b1
                try clear c16
                try clear c20
                try clear c20b0
                try clear c20b1
                try clear p2
                obtain ⟨kq, x78_18, rfl, HA, HJ18, ⟨mc18, rfl⟩⟩ := hcut
                cases kq with
                | zero => exact absurd HA.out (by simp [stratalaw01_BitsWords.j2])
                | succ kj18 =>
                  have H := HA.out
                  clear HA
                  simp only [stratalaw01_BitsWords.j2] at H
                  by_cases c21 : x78_18 = true
                  · subst c21
                    have H1 : (some false) = some r := by rw [if_pos rfl] at H; exact H
                    clear H
                    have H := H1
                    clear H1
                    obtain rfl := Option.some.inj H
                    go_wp2
                    go_ret
                    exact ⟨by first | rfl | (simp; done) | (simp [*]; done), by repeat (first | exact Drawn0.refl _ | apply Drawn0.step)⟩
                  · replace c21 := Bool.eq_false_iff.mpr c21
                    subst c21
                    have H1 : ((bits_Link.f kj18 a1 a2).bind fun bt115 => ((strataref01_Link.f kj18 a1 a2).bind fun bt117 => (if bt115.1 = bt117.1 then ((stratalaw01_num.f bt115.2).bind fun t119 => (stratalaw01_BitsWords.j3 kj18 a3 (t119 != bt117.2))) else (stratalaw01_BitsWords.j3 kj18 a3 true)))) = some r := by rw [if_neg (show ¬ (false = true) by decide)] at H; exact H
                    clear H
                    have H := H1
                    clear H1
                    replace H := Option.bind_eq_some_iff.mp H
                    obtain ⟨⟨t115, t116⟩, A220, H⟩ := H
                    replace H : ((strataref01_Link.f kj18 a1 a2).bind fun bt117 => (if t115 = bt117.1 then ((stratalaw01_num.f t116).bind fun t119 => (stratalaw01_BitsWords.j3 kj18 a3 (t119 != bt117.2))) else (stratalaw01_BitsWords.j3 kj18 a3 true))) = some r := H
                    have A22 := Aside0.mk A220
                    clear A220
                    replace H := Option.bind_eq_some_iff.mp H
                    obtain ⟨⟨t117, t118⟩, A230, H⟩ := H
                    replace H : (if t115 = t117 then ((stratalaw01_num.f t116).bind fun t119 => (stratalaw01_BitsWords.j3 kj18 a3 (t119 != t118))) else (stratalaw01_BitsWords.j3 kj18 a3 true)) = some r := H
                    have A23 := Aside0.mk A230
                    clear A230
                    have HC24 := Aside0.mk H
                    clear H
                    go_upto_region 15 with (first | ((with_reducible refine gate_callee (f := 33) rfl ?_); refine goesL_ (some 82) rfl rfl Try.func33 (by kernel_rfl) rfl #[.int .i64 a1, .bool a2] rfl (by (try simp only [List.map_toArray, List.map_cons, List.map_nil]); first | done | rfl | (simp only [List.length_drop, List.length_take]; rfl)) ?_; (with_reducible refine (bits_Link.calls kj18 a1 a2 t115 t116 _ A22.out).mono ?_); rintro e w' ⟨rfl, ⟨nd, rfl⟩⟩; refine ⟨_, rfl, ?_⟩) | ((with_reducible refine gate_callee (f := 34) rfl ?_); refine goesL_ (some 88) rfl rfl Try.func34 (by kernel_rfl) rfl #[.int .i64 a1, .bool a2] rfl (by (try simp only [List.map_toArray, List.map_cons, List.map_nil]); first | done | rfl | (simp only [List.length_drop, List.length_take]; rfl)) ?_; (with_reducible refine (strataref01_Link.calls kj18 a1 a2 t117 t118 _ A23.out).mono ?_); rintro e w' ⟨rfl, ⟨nd, rfl⟩⟩; refine ⟨_, rfl, ?_⟩))
                    (try simp only [Act.put, List.setIfInBounds_toArray, List.set_cons_zero, List.set_cons_succ])
                    go_cut [99] (fun v99 wc => ∃ (kq : Nat) (x99_23 : Bool), v99 = .bool x99_23 ∧ Aside0 (stratalaw01_BitsWords.j3 kq a3 x99_23 = some r) ∧ Aside0 (kq ≤ kj18) ∧ Drawn0 w wc)
                    case first =>
                      have H := HC24.out
                      clear HC24
                      by_cases c25 : t115 = t117
                      · rw [if_pos c25] at H
                        have c25b0 : (t115 == t117) = true := beq_iff_eq.mpr c25
                        have c25b1 : (t115 != t117) = false := bne_eq_false_iff_eq.mpr c25
                        clear c25
                        (first | rw [c25b0] | (simp only [i64_w, i32_w]; rw [c25b0]) | skip)
                        replace H := Option.bind_eq_some_iff.mp H
                        obtain ⟨t119, A260, H⟩ := H
                        replace H : (stratalaw01_BitsWords.j3 kj18 a3 (t119 != t118)) = some r := H
                        have A26 := Aside0.mk A260
                        clear A260
                        have H' := Aside0.mk H
                        clear H
                        go_wp2_with (first | (go_at_call 13; (with_reducible refine (stratalaw01_num.calls t116 t119 _ A26.out).mono ?_); rintro e w' ⟨rfl, ⟨nd, rfl⟩⟩))
                        go_meet
                        case rel => exact ⟨_, ((t119 != t118)), (by first | rfl | (simp; done) | (simp [*]; done)), H', ⟨by have := HJ6.out; have := HJ12.out; have := HJ18.out; first | omega | exact Nat.le_refl _⟩, by repeat (first | exact Drawn0.refl _ | apply Drawn0.step)⟩
                      · rw [if_neg c25] at H
                        have c25b0 : (t115 == t117) = false := beq_eq_false_iff_ne.mpr c25
                        have c25b1 : (t115 != t117) = true := bne_iff_ne.mpr c25
                        (first | rw [c25b0] | (simp only [i64_w, i32_w]; rw [c25b0]) | skip)
                        have H' := Aside0.mk H
                        clear H
                        go_wp2
                        go_meet
                        case rel => exact ⟨_, (true), (by first | rfl | (simp; done) | (simp [*]; done)), H', ⟨by have := HJ6.out; have := HJ12.out; have := HJ18.out; first | omega | exact Nat.le_refl _⟩, by repeat (first | exact Drawn0.refl _ | apply Drawn0.step)⟩
                    case rest =>
                      clear HC24
                      try clear c1
                      try clear c2
                      try clear p2
                      try clear c3
                      try clear c6
                      try clear c8
                      try clear c8b0
                      try clear c8b1
                      try clear c10
                      try clear c12
                      try clear c14
                      try clear c14b0
                      try clear c14b1
                      try clear c16
                      try clear c18
                      try clear c20
                      try clear c20b0
                      try clear c20b1
                      try clear c21
                      try clear c25
                      try clear c25b0
                      try clear c25b1
                      try clear p2
                      obtain ⟨kq, x99_23, rfl, HA, HJ23, ⟨mc23, rfl⟩⟩ := hcut
                      cases kq with
                      | zero => exact absurd HA.out (by simp [stratalaw01_BitsWords.j3])
                      | succ kj23 =>
                        have H := HA.out
                        clear HA
                        simp only [stratalaw01_BitsWords.j3] at H
                        by_cases c27 : x99_23 = true
                        · subst c27
                          have H1 : (some false) = some r := by rw [if_pos rfl] at H; exact H
                          clear H
                          have H := H1
                          clear H1
                          obtain rfl := Option.some.inj H
                          go_wp2
                          go_ret
                          exact ⟨by first | rfl | (simp; done) | (simp [*]; done), by repeat (first | exact Drawn0.refl _ | apply Drawn0.step)⟩
                        · replace c27 := Bool.eq_false_iff.mpr c27
                          subst c27
                          have H1 : ((bits_OfLink.f a3).bind fun bt120 => ((strataref01_OfLink.f a3).bind fun bt123 => (if bt120.1 = bt123.1 then (if (bt120.2.1 == bt123.2.1) = true then ((stratalaw01_num.f bt120.2.2).bind fun t126 => (some (t126 == bt123.2.2))) else (some false)) else (some false)))) = some r := by rw [if_neg (show ¬ (false = true) by decide)] at H; exact H
                          clear H
                          have H := H1
                          clear H1
                          replace H := Option.bind_eq_some_iff.mp H
                          obtain ⟨⟨t120, t121, t122⟩, A280, H⟩ := H
                          replace H : ((strataref01_OfLink.f a3).bind fun bt123 => (if t120 = bt123.1 then (if (t121 == bt123.2.1) = true then ((stratalaw01_num.f t122).bind fun t126 => (some (t126 == bt123.2.2))) else (some false)) else (some false))) = some r := H
                          have A28 := Aside0.mk A280
                          clear A280
                          replace H := Option.bind_eq_some_iff.mp H
                          obtain ⟨⟨t123, t124, t125⟩, A290, H⟩ := H
                          replace H : (if t120 = t123 then (if (t121 == t124) = true then ((stratalaw01_num.f t122).bind fun t126 => (some (t126 == t125))) else (some false)) else (some false)) = some r := H
                          have A29 := Aside0.mk A290
                          clear A290
                          by_cases c30 : t120 = t123
                          · rw [if_pos c30] at H
                            have c30b0 : (t120 == t123) = true := beq_iff_eq.mpr c30
                            have c30b1 : (t120 != t123) = false := bne_eq_false_iff_eq.mpr c30
                            clear c30
                            by_cases c31 : (t121 == t124) = true
                            · rw [if_pos c31] at H
                              have c31b0 : (t121 == t124) = true := c31
                              (try (have c31b1 : decide (t121 = t124) = true := by simpa using c31))
                              (try (have c31b2 : (t121 == t124) = true := by simpa using c31))
                              clear c31
                              replace H := Option.bind_eq_some_iff.mp H
                              obtain ⟨t126, A320, H⟩ := H
                              replace H : (some (t126 == t125)) = some r := H
                              have A32 := Aside0.mk A320
                              clear A320
                              obtain rfl := Option.some.inj H
                              go_wp2_with (first | ((with_reducible refine gate_callee (f := 35) rfl ?_); refine goesL_ (some 102) rfl rfl Try.func35 (by kernel_rfl) rfl #[.int .u64 a3] rfl (by (try simp only [List.map_toArray, List.map_cons, List.map_nil]); first | done | rfl | (simp only [List.length_drop, List.length_take]; rfl)) ?_; (with_reducible refine (bits_OfLink.calls a3 t120 t121 t122 _ A28.out).mono ?_); rintro e w' ⟨rfl, ⟨nd, rfl⟩⟩; refine ⟨_, rfl, ?_⟩) | ((with_reducible refine gate_callee (f := 36) rfl ?_); refine goesL_ (some 108) rfl rfl Try.func36 (by kernel_rfl) rfl #[.int .u64 a3] rfl (by (try simp only [List.map_toArray, List.map_cons, List.map_nil]); first | done | rfl | (simp only [List.length_drop, List.length_take]; rfl)) ?_; (with_reducible refine (strataref01_OfLink.calls a3 t123 t124 t125 _ A29.out).mono ?_); rintro e w' ⟨rfl, ⟨nd, rfl⟩⟩; refine ⟨_, rfl, ?_⟩) | (go_at_call 13; (with_reducible refine (stratalaw01_num.calls t122 t126 _ A32.out).mono ?_); rintro e w' ⟨rfl, ⟨nd, rfl⟩⟩))
                              go_ret
                              exact ⟨by first | rfl | (simp; done) | (simp [*]; done), by repeat (first | exact Drawn0.refl _ | apply Drawn0.step)⟩
                            · rw [if_neg c31] at H
                              have c31b0 : (t121 == t124) = false := by simpa using c31
                              (try (have c31b1 : decide (t121 = t124) = false := by simpa using c31))
                              (try (have c31b2 : (t121 == t124) = false := by simpa using c31))
                              (try (have c31b3 : ¬ (t121 = t124) := by simpa using c31))
                              clear c31
                              obtain rfl := Option.some.inj H
                              go_wp2_with (first | ((with_reducible refine gate_callee (f := 35) rfl ?_); refine goesL_ (some 102) rfl rfl Try.func35 (by kernel_rfl) rfl #[.int .u64 a3] rfl (by (try simp only [List.map_toArray, List.map_cons, List.map_nil]); first | done | rfl | (simp only [List.length_drop, List.length_take]; rfl)) ?_; (with_reducible refine (bits_OfLink.calls a3 t120 t121 t122 _ A28.out).mono ?_); rintro e w' ⟨rfl, ⟨nd, rfl⟩⟩; refine ⟨_, rfl, ?_⟩) | ((with_reducible refine gate_callee (f := 36) rfl ?_); refine goesL_ (some 108) rfl rfl Try.func36 (by kernel_rfl) rfl #[.int .u64 a3] rfl (by (try simp only [List.map_toArray, List.map_cons, List.map_nil]); first | done | rfl | (simp only [List.length_drop, List.length_take]; rfl)) ?_; (with_reducible refine (strataref01_OfLink.calls a3 t123 t124 t125 _ A29.out).mono ?_); rintro e w' ⟨rfl, ⟨nd, rfl⟩⟩; refine ⟨_, rfl, ?_⟩))
                              go_ret
                              exact ⟨by first | rfl | (simp; done) | (simp [*]; done), by repeat (first | exact Drawn0.refl _ | apply Drawn0.step)⟩
                          · rw [if_neg c30] at H
                            have c30b0 : (t120 == t123) = false := beq_eq_false_iff_ne.mpr c30
                            have c30b1 : (t120 != t123) = true := bne_iff_ne.mpr c30
                            obtain rfl := Option.some.inj H
                            go_wp2_with (first | ((with_reducible refine gate_callee (f := 35) rfl ?_); refine goesL_ (some 102) rfl rfl Try.func35 (by kernel_rfl) rfl #[.int .u64 a3] rfl (by (try simp only [List.map_toArray, List.map_cons, List.map_nil]); first | done | rfl | (simp only [List.length_drop, List.length_take]; rfl)) ?_; (with_reducible refine (bits_OfLink.calls a3 t120 t121 t122 _ A28.out).mono ?_); rintro e w' ⟨rfl, ⟨nd, rfl⟩⟩; refine ⟨_, rfl, ?_⟩) | ((with_reducible refine gate_callee (f := 36) rfl ?_); refine goesL_ (some 108) rfl rfl Try.func36 (by kernel_rfl) rfl #[.int .u64 a3] rfl (by (try simp only [List.map_toArray, List.map_cons, List.map_nil]); first | done | rfl | (simp only [List.length_drop, List.length_take]; rfl)) ?_; (with_reducible refine (strataref01_OfLink.calls a3 t123 t124 t125 _ A29.out).mono ?_); rintro e w' ⟨rfl, ⟨nd, rfl⟩⟩; refine ⟨_, rfl, ?_⟩))
                            go_ret
                            exact ⟨by first | rfl | (simp; done) | (simp [*]; done), by repeat (first | exact Drawn0.refl _ | apply Drawn0.step)⟩

/-- THE ONE PURE STATEMENT of stratalaw01_BitsWords: yours. -/
def stratalaw01_BitsWords.Pure : Prop := ∀ (a0 : Int) (a1 : Int) (a2 : Bool) (a3 : Int), (Lit.int .u64 a0).wf = true → (Lit.int .i64 a1).wf = true → (Lit.int .u64 a3).wf = true → ∃ k, stratalaw01_BitsWords.f k a0 a1 a2 a3 = some true
theorem stratalaw01_BitsWords.walk (P : stratalaw01_BitsWords.Pure) (a0 : Int) (a1 : Int) (a2 : Bool) (a3 : Int) (w : World) (w0 : (Lit.int .u64 a0).wf = true) (w1 : (Lit.int .i64 a1).wf = true) (w3 : (Lit.int .u64 a3).wf = true) :
    Calls Try.prog 8 #[.int .u64 a0, .int .i64 a1, .bool a2, .int .u64 a3] w fun e w' => e = .returned (.bool true) ∧ Below w.heap.size w w' := by
  obtain ⟨k, h⟩ := P a0 a1 a2 a3 w0 w1 w3
  refine (stratalaw01_BitsWords.calls k a0 a1 a2 a3 true w h).mono ?_
  rintro e w' ⟨rfl, hd⟩
  exact ⟨rfl, hd.below⟩

end Go.Proofs.Ytnanepgcaefhcaa.PBitsWords
