-- Written by the kit's print.py, called by xprint.py (a helper of this repo); some functions are taken from texts of this seat that were proved by hand.
import Derived.Test.YtnanepgcaefhcaaPBitsAbovex0
namespace Go.Proofs.Ytnanepgcaefhcaa.PBitsAbove
open Go.RowKit Go.Proofs.YtnanepgcaefhcaaW.PrintWords Go.Proofs.YtnanepgcaefhcaaW.PrintLast Go.Proofs.YtnanepgcaefhcaaW.PrintMore
attribute [local go_sem] max2_int min2_int max_two min_two max_three min_three max_four min_four   -- for this text's walks alone
set_option linter.unusedVariables false
set_option linter.unusedSimpArgs false

/-! ### bits_After: function 16 -/
def bits_After.l0 : Nat → ByteArray → Option (ByteArray × Bool)
  | 0, _ => none
  | k + 1, x4 => if x4.toList = ([] : List UInt8) then (some ((⟨#[]⟩ : ByteArray), false)) else (if 0 ≤ (wrap64 ((x4.size : Int) - 1)) then (if (wrap64 ((x4.size : Int) - 1)) < (x4.size : Int) then (if (wrap64 ((x4.size : Int) - 1)) ≤ (x4.size : Int) then (if (bt x4 (wrap64 ((x4.size : Int) - 1))) = 255 then (bits_After.l0 k (x4.extract 0 ((wrap64 ((x4.size : Int) - 1)) : Int).toNat)) else ((some (([((bt x4 (wrap64 ((x4.size : Int) - 1))) + 1) % 256] : List Int) : List Int)).bind fun y101 => (if (x4.extract 0 ((wrap64 ((x4.size : Int) - 1)) : Int).toNat).size + (strOfNums y101).size ≤ 9223372036854775807 then (some ((x4.extract 0 ((wrap64 ((x4.size : Int) - 1)) : Int).toNat) ++ (strOfNums y101), true)) else (none)))) else (none)) else (none)) else (none))
def bits_After.f (k : Nat) (a0 : ByteArray) : Option (ByteArray × Bool) := bits_After.l0 k a0
theorem bits_After.mono_l : ∀ k, (∀ y0, LeO (bits_After.l0 k y0) (bits_After.l0 (k + 1) y0))
  | 0 => fun _ r h => by simp [bits_After.l0] at h
  | k + 1 => by
    have ih0 := bits_After.mono_l k
    · intro y0
      unfold bits_After.l0
      repeat' first
      | (with_reducible exact ih0 _)
      | (with_reducible exact LeO.refl _)
      | (with_reducible exact LeO.none _)
      | (with_reducible refine LeO.ite ?_ ?_)
      | (with_reducible refine LeO.bind ?_ (fun _ => ?_))
      | exact ih0 _
      | exact LeO.none _
      | refine LeO.ite ?_ ?_
      | refine LeO.bind ?_ (fun _ => ?_)
theorem bits_After.mono : ∀ a0 k, LeO (bits_After.f k a0) (bits_After.f (k + 1) a0) := by
  intro a0 k
  have ih0 := bits_After.mono_l k
  unfold bits_After.f
  repeat' first
      | (with_reducible exact ih0 _)
      | (with_reducible exact LeO.refl _)
      | (with_reducible exact LeO.none _)
      | (with_reducible refine LeO.ite ?_ ?_)
      | (with_reducible refine LeO.bind ?_ (fun _ => ?_))
      | exact ih0 _
      | exact LeO.none _
      | refine LeO.ite ?_ ?_
      | refine LeO.bind ?_ (fun _ => ?_)
set_option maxHeartbeats 8000000 in
set_option maxRecDepth 100000 in
theorem bits_After.calls (k : Nat) (a0 : ByteArray) (r1 : ByteArray) (r2 : Bool) (w : World) (h : bits_After.f k a0 = some (r1, r2)) :
    Calls Try.prog 16 #[.string a0] w fun e w' => e = .returned (.tuple #[.string r1, .bool r2]) ∧ Below w.heap.size w w' := by
  have HB := Aside0.mk (Below.refl w.heap.size w)
  have H : (bits_After.l0 k a0) = some (r1, r2) := h
  clear h
  have H' := Aside0.mk H
  clear H
  go_enter Try.func16, Try.ntmps16
  go_wp2
  go_loopg [4] k (fun kq v4 w' => ∃ (x4_1 : ByteArray), v4 = .string x4_1 ∧ Aside0 (bits_After.l0 kq x4_1 = some (r1, r2)) ∧ Aside0 (kq ≤ k) ∧ Aside0 (Below w.heap.size w w'))
  case atStart => exact ⟨(a0), (by first | rfl | (simp; done) | (simp [*]; done)), H', ⟨Nat.le_refl _⟩, ⟨by repeat (first | (with_reducible first | exact HB.out | apply below_alloc | apply pw_below_drewN | apply below_drew1) | exact HB.out)⟩⟩
  case round =>
    clear H'
    try clear c1
    obtain ⟨x4_1, rfl, HA, HK1, HB⟩ := hrel
    cases gk with
    | zero => exact absurd HA.out (by simp [bits_After.l0])
    | succ k1 =>
      have H := HA.out
      clear HA
      simp only [bits_After.l0] at H
      by_cases c2 : x4_1.toList = ([] : List UInt8)
      · rw [if_pos c2] at H
        have c2b0 : (x4_1.toList == ([] : List UInt8)) = true := beq_iff_eq.mpr c2
        have c2b1 : (x4_1.toList != ([] : List UInt8)) = false := bne_eq_false_iff_eq.mpr c2
        clear c2
        simp only [Option.some.injEq, Prod.mk.injEq] at H
        obtain ⟨rfl, rfl⟩ := H
        go_wp2
        go_ret2
        exact ⟨by first | rfl | (simp [errW_none, errW_some] <;> rfl) | (simp [*, errW_none, errW_some] <;> rfl), by repeat (first | (with_reducible first | exact HB.out | apply below_alloc | apply pw_below_drewN | apply below_drew1) | exact HB.out)⟩
      · rw [if_neg c2] at H
        have c2b0 : (x4_1.toList == ([] : List UInt8)) = false := beq_eq_false_iff_ne.mpr c2
        have c2b1 : (x4_1.toList != ([] : List UInt8)) = true := bne_iff_ne.mpr c2
        obtain ⟨ji3, hji3⟩ : ∃ j_ : Int, (wrap64 ((x4_1.size : Int) - 1)) = j_ := ⟨_, rfl⟩
        replace H : (if 0 ≤ (ji3) then (if (ji3) < (x4_1.size : Int) then (if (ji3) ≤ (x4_1.size : Int) then (if (bt x4_1 (ji3)) = 255 then (bits_After.l0 k1 (x4_1.extract 0 ((ji3) : Int).toNat)) else ((some (([((bt x4_1 (ji3)) + 1) % 256] : List Int) : List Int)).bind fun y101 => (if (x4_1.extract 0 ((ji3) : Int).toNat).size + (strOfNums y101).size ≤ 9223372036854775807 then (some ((x4_1.extract 0 ((ji3) : Int).toNat) ++ (strOfNums y101), true)) else (none)))) else (none)) else (none)) else (none)) = some (r1, r2) := by first | (rw [hji3] at H; exact H) | (simp only [hji3] at H ⊢; exact H)
        have hji3w : (IntKind.i64.wrap ((x4_1.size : Int) - 1)) = ji3 := (i64_w _).trans hji3
        by_cases c4 : 0 ≤ (ji3)
        · rw [if_pos c4] at H
          have c4b0 : decide (0 ≤ (ji3)) = true := decide_eq_true c4
          clear c4
          by_cases c5 : (ji3) < (x4_1.size : Int)
          · rw [if_pos c5] at H
            have c5b0 : decide ((ji3) < (x4_1.size : Int)) = true := decide_eq_true c5
            clear c5
            have c7b0 := eq_true (of_decide_eq_true (by first | (with_reducible assumption) | assumption) : 0 ≤ (ji3))
            by_cases c8 : (ji3) ≤ (x4_1.size : Int)
            · rw [if_pos c8] at H
              have c8b0 := eq_true c8
              have c8b1 : decide ((ji3) ≤ (x4_1.size : Int)) = true := decide_eq_true c8
              clear c8
              by_cases c9 : (bt x4_1 (ji3)) = 255
              · rw [if_pos c9] at H
                have c9b0 : ((bt x4_1 (ji3)) == 255) = true := beq_iff_eq.mpr c9
                have c9b1 : ((bt x4_1 (ji3)) != 255) = false := bne_eq_false_iff_eq.mpr c9
                clear c9
                have H' := Aside0.mk H
                clear H
                have p6 : 0 ≤ ((ji3) : Int) := of_decide_eq_true (by first | (with_reducible assumption) | assumption)
                have q6 : (ji3) < (x4_1.size : Int) := of_decide_eq_true (by first | (with_reducible assumption) | assumption)
                have hx6 := bt_at x4_1 (ji3)
                replace p6 := eq_true p6
                replace q6 := eq_true q6
                go_wp2
                go_roundg k1
                case measure => have := HK1.out; omega
                case rel => exact ⟨(x4_1.extract 0 ((ji3) : Int).toNat), (by first | rfl | (simp; done) | (simp only [← hji3] <;> (first | rfl | simp)) | (simp [*]; done)), H', ⟨by have := HK1.out; omega⟩, ⟨by repeat (first | (with_reducible first | exact HB.out | apply below_alloc | apply pw_below_drewN | apply below_drew1) | exact HB.out)⟩⟩
              · rw [if_neg c9] at H
                have c9b0 : ((bt x4_1 (ji3)) == 255) = false := beq_eq_false_iff_ne.mpr c9
                have c9b1 : ((bt x4_1 (ji3)) != 255) = true := bne_iff_ne.mpr c9
                obtain ⟨y101, hy101⟩ : ∃ y_ : List Int, y_ = (([((bt x4_1 (ji3)) + 1) % 256] : List Int)) := ⟨_, rfl⟩
                replace H : (if (x4_1.extract 0 ((ji3) : Int).toNat).size + (strOfNums y101).size ≤ 9223372036854775807 then (some ((x4_1.extract 0 ((ji3) : Int).toNat) ++ (strOfNums y101), true)) else (none)) = some (r1, r2) := by first | (rw [hy101]; with_reducible exact H) | (have H2_ := (Option.bind_some _ _).symm.trans H; rw [hy101]; with_reducible exact H2_) | (have H2_ := (Option.bind_some _ _).symm.trans H; with_reducible exact H2_) | with_reducible exact H | (rw [hy101]; exact H) | exact H
                have Ny101 := Aside0.mk hy101
                clear hy101
                by_cases c10 : (x4_1.extract 0 ((ji3) : Int).toNat).size + (strOfNums y101).size ≤ 9223372036854775807
                · rw [if_pos c10] at H
                  have c10b0 := eq_true c10
                  have c10b1 : decide ((x4_1.extract 0 ((ji3) : Int).toNat).size + (strOfNums y101).size ≤ 9223372036854775807) = true := decide_eq_true c10
                  try have c10b2 : (9223372036854775807 < (x4_1.extract 0 ((ji3) : Int).toNat).size + (strOfNums y101).size) = False := eq_false (Nat.not_lt.2 c10)
                  simp only [Option.some.injEq, Prod.mk.injEq] at H
                  obtain ⟨rfl, rfl⟩ := H
                  have p6 : 0 ≤ ((ji3) : Int) := of_decide_eq_true (by first | (with_reducible assumption) | assumption)
                  have q6 : (ji3) < (x4_1.size : Int) := of_decide_eq_true (by first | (with_reducible assumption) | assumption)
                  have hx6 := bt_at x4_1 (ji3)
                  replace p6 := eq_true p6
                  replace q6 := eq_true q6
                  go_wp2_with (first | ((with_reducible refine gate_dst (N := 24) rfl ?_); refine Kd.R_lit (Kd.int .u8) _ 5 ?hg (N := 24) ?hd (xs := ([((bt x4_1 (ji3)) + 1) % 256] : List Int)) (inner := [.int .u8 (((bt x4_1 (ji3)) + 1) % 256)]) (ok := fun _ => True) (okp := fun _ => True) ?hr ?hp (fun _ hk => hk) trivial (Below.refl _ _) (Nat.le_refl _) (by simp) ?_; (case hd => rfl); (case hg => rfl); (case hr => first | (go_simp; done) | (go_simp; rfl)); (case hp => exact (Reps.one (show Kd.M (Kd.int .u8) _ _ _ (((bt x4_1 (ji3)) + 1) % 256) [.int .u8 (((bt x4_1 (ji3)) + 1) % 256)] from rfl) (Reps.none _ _))); intro v102 w11 ho12 hb hg_ hnew_; clear hg_ hnew_; (first | rw [← Ny101.out] at ho12 | (simp only [Int.reduceToNat] at ho12; rw [← Ny101.out] at ho12)); have n0_ := Aside0.mk (Kd.R_lower ho12 (below_size (by repeat (first | (with_reducible first | exact HB.out | apply below_alloc | apply pw_below_drewN | apply below_drew1) | exact HB.out)))); have n1_ := Aside0.mk (below_step (by repeat (first | (with_reducible first | exact HB.out | apply below_alloc | apply pw_below_drewN | apply below_drew1) | exact HB.out)) hb); clear HB; have HO103 := n0_; have HB := n1_; clear n0_ n1_; clear hb ho12; have hcv13 := own_string (P := Try.prog) Try.underlying82 Try.underlying5 Try.underlying9 (Kd.own_of_R HO103.out)))
                  go_ret2
                  exact ⟨by first | rfl | (simp [errW_none, errW_some] <;> rfl) | (simp only [← hji3]; first | rfl | (simp [errW_none, errW_some] <;> rfl)) | (simp [*, errW_none, errW_some] <;> rfl), by repeat (first | (with_reducible first | exact HB.out | apply below_alloc | apply pw_below_drewN | apply below_drew1) | exact HB.out)⟩
                · rw [if_neg c10] at H
                  exact absurd H (by simp)
            · rw [if_neg c8] at H
              exact absurd H (by simp)
          · rw [if_neg c5] at H
            exact absurd H (by simp)
        · rw [if_neg c4] at H
          exact absurd H (by simp)

/-! ### stratalaw01_BitsAbove: function 6 -/
def stratalaw01_BitsAbove.l0 : Nat → ByteArray → ByteArray → ByteArray → ByteArray → Bool → Bool → Int → Option (Bool)
  | 0, _, _, _, _, _, _, _ => none
  | k + 1, x0, x1, x2, x7, x8, x9, x10 => if x10 < (x0.size : Int) then (if x9 = true then (stratalaw01_BitsAbove.l0 k x0 x1 x2 x7 x8 true (wrap64 (x10 + 1))) else (if 0 ≤ x10 then (stratalaw01_BitsAbove.l0 k x0 x1 x2 x7 x8 ((bt x0 x10) != 255) (wrap64 (x10 + 1))) else (none))) else (if (x8 != x9) = true then (some false) else (if x8 = true then (if x0.size + x1.size ≤ 9223372036854775807 then (if ((Op.bytesLess ((x0 ++ x1).toList) x7.toList) = true) then (if (x2.size : Int) ≥ (x0.size : Int) then (if 0 ≤ (x0.size : Int) then (if (x0.size : Int) ≤ (x2.size : Int) then (if (x2.extract 0 ((x0.size : Int) : Int).toNat).toList = x0.toList then (some true) else (if (Op.bytesLess x2.toList x0.toList) = true then (some true) else (some (!(Op.bytesLess x2.toList x7.toList))))) else (none)) else (none)) else (if (Op.bytesLess x2.toList x0.toList) = true then (some true) else (some (!(Op.bytesLess x2.toList x7.toList))))) else (some false)) else (none)) else (some (x7.toList == ([] : List UInt8)))))
def stratalaw01_BitsAbove.f (k : Nat) (a0 : ByteArray) (a1 : ByteArray) (a2 : ByteArray) : Option (Bool) := (bits_After.f k a0).bind fun bt104 => (stratalaw01_BitsAbove.l0 k a0 a1 a2 bt104.1 bt104.2 false 0)
theorem stratalaw01_BitsAbove.mono_l : ∀ k, (∀ y0 y1 y2 y3 y4 y5 y6, LeO (stratalaw01_BitsAbove.l0 k y0 y1 y2 y3 y4 y5 y6) (stratalaw01_BitsAbove.l0 (k + 1) y0 y1 y2 y3 y4 y5 y6))
  | 0 => fun _ _ _ _ _ _ _ r h => by simp [stratalaw01_BitsAbove.l0] at h
  | k + 1 => by
    have ih0 := stratalaw01_BitsAbove.mono_l k
    · intro y0 y1 y2 y3 y4 y5 y6
      unfold stratalaw01_BitsAbove.l0
      repeat' first
      | (with_reducible exact ih0 _ _ _ _ _ _ _)
      | (with_reducible exact bits_After.mono _ _)
      | (with_reducible exact LeO.refl _)
      | (with_reducible exact LeO.none _)
      | (with_reducible refine LeO.ite ?_ ?_)
      | (with_reducible refine LeO.bind ?_ (fun _ => ?_))
      | exact ih0 _ _ _ _ _ _ _
      | exact bits_After.mono _ _
      | exact LeO.none _
      | refine LeO.ite ?_ ?_
      | refine LeO.bind ?_ (fun _ => ?_)
theorem stratalaw01_BitsAbove.mono : ∀ a0 a1 a2 k, LeO (stratalaw01_BitsAbove.f k a0 a1 a2) (stratalaw01_BitsAbove.f (k + 1) a0 a1 a2) := by
  intro a0 a1 a2 k
  have ih0 := stratalaw01_BitsAbove.mono_l k
  unfold stratalaw01_BitsAbove.f
  repeat' first
      | (with_reducible exact ih0 _ _ _ _ _ _ _)
      | (with_reducible exact bits_After.mono _ _)
      | (with_reducible exact LeO.refl _)
      | (with_reducible exact LeO.none _)
      | (with_reducible refine LeO.ite ?_ ?_)
      | (with_reducible refine LeO.bind ?_ (fun _ => ?_))
      | exact ih0 _ _ _ _ _ _ _
      | exact bits_After.mono _ _
      | exact LeO.none _
      | refine LeO.ite ?_ ?_
      | refine LeO.bind ?_ (fun _ => ?_)
set_option maxHeartbeats 8000000 in
set_option maxRecDepth 100000 in
theorem stratalaw01_BitsAbove.calls (k : Nat) (a0 : ByteArray) (a1 : ByteArray) (a2 : ByteArray) (r : Bool) (w : World) (h : stratalaw01_BitsAbove.f k a0 a1 a2 = some r) :
    Calls Try.prog 6 #[.string a0, .string a1, .string a2] w fun e w' => e = .returned (.bool r) ∧ Below w.heap.size w w' := by
  have HB := Aside0.mk (Below.refl w.heap.size w)
  have H : ((bits_After.f k a0).bind fun bt104 => (stratalaw01_BitsAbove.l0 k a0 a1 a2 bt104.1 bt104.2 false 0)) = some r := h
  clear h
  replace H := Option.bind_eq_some_iff.mp H
  obtain ⟨⟨t104, t105⟩, A40, H⟩ := H
  replace H : (stratalaw01_BitsAbove.l0 k a0 a1 a2 t104 t105 false 0) = some r := H
  have A4 := Aside0.mk A40
  clear A40
  have H' := Aside0.mk H
  clear H
  go_enter Try.func6, Try.ntmps6
  go_wp2_with (first | ((with_reducible refine gate_callee (f := 16) rfl ?_); refine goesL_ (some 14) rfl rfl Try.func16 (by kernel_rfl) rfl #[.string a0] rfl (by (try simp only [List.map_toArray, List.map_cons, List.map_nil]); first | done | rfl | (simp only [List.length_drop, List.length_take]; rfl)) ?_; (with_reducible refine (bits_After.calls k a0 t104 t105 _ A4.out).mono ?_); rintro e w5 ⟨rfl, hb⟩; refine ⟨_, rfl, ?_⟩; have n0_ := Aside0.mk (below_step (by repeat (first | (with_reducible first | exact HB.out | apply below_alloc | apply pw_below_drewN | apply below_drew1) | exact HB.out)) hb); clear HB; have HB := n0_; clear n0_; (try clear hb); (try clear hb2); (try clear hk); (try clear hi)))
  go_loopg [9, 10] k (fun kq v9 v10 w' => ∃ (x9_1 : Bool) (x10_1 : Int), v9 = .bool x9_1 ∧ v10 = .int .i64 x10_1 ∧ Aside0 (stratalaw01_BitsAbove.l0 kq a0 a1 a2 t104 t105 x9_1 x10_1 = some r) ∧ Aside0 (kq ≤ k) ∧ Aside0 (Below w.heap.size w w'))
  case atStart => exact ⟨(false), (0), (by first | rfl | (simp; done) | (simp [*]; done)), (by first | rfl | (simp; done) | (simp [*]; done)), H', ⟨Nat.le_refl _⟩, ⟨by repeat (first | (with_reducible first | exact HB.out | apply below_alloc | apply pw_below_drewN | apply below_drew1) | exact HB.out)⟩⟩
  case round =>
    clear H'
    try clear c1
    try clear p2
    obtain ⟨x9_1, x10_1, rfl, rfl, HA, HK1, HB⟩ := hrel
    cases gk with
    | zero => exact absurd HA.out (by simp [stratalaw01_BitsAbove.l0])
    | succ k1 =>
      have H := HA.out
      clear HA
      simp only [stratalaw01_BitsAbove.l0] at H
      by_cases c6 : x10_1 < (a0.size : Int)
      · rw [if_pos c6] at H
        have c6b0 : decide (x10_1 < (a0.size : Int)) = true := decide_eq_true c6
        clear c6
        by_cases c7 : x9_1 = true
        · subst c7
          have H1 : (stratalaw01_BitsAbove.l0 k1 a0 a1 a2 t104 t105 true (wrap64 (x10_1 + 1))) = some r := by rw [if_pos rfl] at H; exact H
          clear H
          have H := H1
          clear H1
          have H' := Aside0.mk H
          clear H
          go_wp2
          go_roundg k1
          case measure => have := HK1.out; omega
          case rel => exact ⟨(true), (wrap64 (x10_1 + 1)), (by first | rfl | (simp; done) | (simp [*]; done)), (by first | rfl | (simp; done) | (simp [*]; done)), H', ⟨by have := HK1.out; omega⟩, ⟨by repeat (first | (with_reducible first | exact HB.out | apply below_alloc | apply pw_below_drewN | apply below_drew1) | exact HB.out)⟩⟩
        · replace c7 := Bool.eq_false_iff.mpr c7
          subst c7
          have H1 : (if 0 ≤ x10_1 then (stratalaw01_BitsAbove.l0 k1 a0 a1 a2 t104 t105 ((bt a0 x10_1) != 255) (wrap64 (x10_1 + 1))) else (none)) = some r := by rw [if_neg (show ¬ (false = true) by decide)] at H; exact H
          clear H
          have H := H1
          clear H1
          by_cases c8 : 0 ≤ x10_1
          · rw [if_pos c8] at H
            have c8b0 : decide (0 ≤ x10_1) = true := decide_eq_true c8
            clear c8
            have H' := Aside0.mk H
            clear H
            have p9 : 0 ≤ (x10_1 : Int) := of_decide_eq_true (by first | (with_reducible assumption) | assumption)
            have q9 : x10_1 < (a0.size : Int) := of_decide_eq_true (by first | (with_reducible assumption) | assumption)
            have hx9 := bt_at a0 x10_1
            replace p9 := eq_true p9
            replace q9 := eq_true q9
            go_wp2
            go_roundg k1
            case measure => have := HK1.out; omega
            case rel => exact ⟨(((bt a0 x10_1) != 255)), (wrap64 (x10_1 + 1)), (by first | rfl | (simp; done) | (simp [*]; done)), (by first | rfl | (simp; done) | (simp [*]; done)), H', ⟨by have := HK1.out; omega⟩, ⟨by repeat (first | (with_reducible first | exact HB.out | apply below_alloc | apply pw_below_drewN | apply below_drew1) | exact HB.out)⟩⟩
          · rw [if_neg c8] at H
            exact absurd H (by simp)
      · rw [if_neg c6] at H
        have c6b0 : decide (x10_1 < (a0.size : Int)) = false := decide_eq_false c6
        clear c6
        by_cases c10 : (t105 != x9_1) = true
        · rw [if_pos c10] at H
          have c10b0 : (t105 != x9_1) = true := c10
          (try (have c10b1 : decide (t105 = x9_1) = false := by simpa using c10))
          (try (have c10b2 : (t105 == x9_1) = false := by simpa using c10))
          (try (have c10b3 : ¬ (t105 = x9_1) := by simpa using c10))
          clear c10
          obtain rfl := Option.some.inj H
          go_wp2
          go_ret
          exact ⟨by first | rfl | (simp [errW_none, errW_some] <;> rfl) | (simp [*, errW_none, errW_some] <;> rfl), by repeat (first | (with_reducible first | exact HB.out | apply below_alloc | apply pw_below_drewN | apply below_drew1) | exact HB.out)⟩
        · rw [if_neg c10] at H
          have c10b0 : (t105 != x9_1) = false := by simpa using c10
          (try (have c10b1 : decide (t105 = x9_1) = true := by simpa using c10))
          (try (have c10b2 : (t105 == x9_1) = true := by simpa using c10))
          clear c10
          by_cases c11 : t105 = true
          · subst c11
            have H1 : (if a0.size + a1.size ≤ 9223372036854775807 then (if ((Op.bytesLess ((a0 ++ a1).toList) t104.toList) = true) then (if (a2.size : Int) ≥ (a0.size : Int) then (if 0 ≤ (a0.size : Int) then (if (a0.size : Int) ≤ (a2.size : Int) then (if (a2.extract 0 ((a0.size : Int) : Int).toNat).toList = a0.toList then (some true) else (if (Op.bytesLess a2.toList a0.toList) = true then (some true) else (some (!(Op.bytesLess a2.toList t104.toList))))) else (none)) else (none)) else (if (Op.bytesLess a2.toList a0.toList) = true then (some true) else (some (!(Op.bytesLess a2.toList t104.toList))))) else (some false)) else (none)) = some r := by rw [if_pos rfl] at H; exact H
            clear H
            have H := H1
            clear H1
            by_cases c12 : a0.size + a1.size ≤ 9223372036854775807
            · rw [if_pos c12] at H
              have c12b0 := eq_true c12
              have c12b1 : decide (a0.size + a1.size ≤ 9223372036854775807) = true := decide_eq_true c12
              try have c12b2 : (9223372036854775807 < a0.size + a1.size) = False := eq_false (Nat.not_lt.2 c12)
              by_cases c13 : ((Op.bytesLess ((a0 ++ a1).toList) t104.toList) = true)
              · rw [if_pos c13] at H
                have c13b0 : (Op.bytesLess ((a0 ++ a1).toList) t104.toList) = true := c13
                clear c13
                by_cases c14 : (a2.size : Int) ≥ (a0.size : Int)
                · rw [if_pos c14] at H
                  have c14b0 : decide ((a0.size : Int) ≤ (a2.size : Int)) = true := decide_eq_true c14
                  have c14b1 : decide (a0.size ≤ a2.size) = true := decide_eq_true (Int.ofNat_le.mp c14)
                  clear c14
                  by_cases c15 : 0 ≤ (a0.size : Int)
                  · rw [if_pos c15] at H
                    have c15b0 := eq_true c15
                    have c15b1 : decide (0 ≤ (a0.size : Int)) = true := decide_eq_true c15
                    clear c15
                    by_cases c16 : (a0.size : Int) ≤ (a2.size : Int)
                    · rw [if_pos c16] at H
                      have c16b0 := eq_true c16
                      have c16b1 : decide ((a0.size : Int) ≤ (a2.size : Int)) = true := decide_eq_true c16
                      clear c16
                      by_cases c17 : (a2.extract 0 ((a0.size : Int) : Int).toNat).toList = a0.toList
                      · rw [if_pos c17] at H
                        have c17b0 : ((a2.extract 0 ((a0.size : Int) : Int).toNat).toList == a0.toList) = true := beq_iff_eq.mpr c17
                        have c17b1 : ((a2.extract 0 ((a0.size : Int) : Int).toNat).toList != a0.toList) = false := bne_eq_false_iff_eq.mpr c17
                        have c17b8 : ((a2.extract 0 a0.size).toList == a0.toList) = true := c17b0
                        have c17b9 : ((a2.extract 0 a0.size).toList != a0.toList) = false := c17b1
                        clear c17
                        obtain rfl := Option.some.inj H
                        go_wp2
                        go_ret
                        exact ⟨by first | rfl | (simp [errW_none, errW_some] <;> rfl) | (simp [*, errW_none, errW_some] <;> rfl), by repeat (first | (with_reducible first | exact HB.out | apply below_alloc | apply pw_below_drewN | apply below_drew1) | exact HB.out)⟩
                      · rw [if_neg c17] at H
                        have c17b0 : ((a2.extract 0 ((a0.size : Int) : Int).toNat).toList == a0.toList) = false := beq_eq_false_iff_ne.mpr c17
                        have c17b1 : ((a2.extract 0 ((a0.size : Int) : Int).toNat).toList != a0.toList) = true := bne_iff_ne.mpr c17
                        have c17b8 : ((a2.extract 0 a0.size).toList == a0.toList) = false := c17b0
                        have c17b9 : ((a2.extract 0 a0.size).toList != a0.toList) = true := c17b1
                        by_cases c18 : (Op.bytesLess a2.toList a0.toList) = true
                        · rw [if_pos c18] at H
                          have c18b0 : (Op.bytesLess a2.toList a0.toList) = true := c18
                          clear c18
                          obtain rfl := Option.some.inj H
                          go_wp2
                          go_ret
                          exact ⟨by first | rfl | (simp [errW_none, errW_some] <;> rfl) | (simp [*, errW_none, errW_some] <;> rfl), by repeat (first | (with_reducible first | exact HB.out | apply below_alloc | apply pw_below_drewN | apply below_drew1) | exact HB.out)⟩
                        · rw [if_neg c18] at H
                          have c18b0 : (Op.bytesLess a2.toList a0.toList) = false := by simpa using c18
                          clear c18
                          obtain rfl := Option.some.inj H
                          go_wp2
                          go_ret
                          exact ⟨by first | rfl | (simp [errW_none, errW_some] <;> rfl) | (simp [*, errW_none, errW_some] <;> rfl), by repeat (first | (with_reducible first | exact HB.out | apply below_alloc | apply pw_below_drewN | apply below_drew1) | exact HB.out)⟩
                    · rw [if_neg c16] at H
                      exact absurd H (by simp)
                  · rw [if_neg c15] at H
                    exact absurd H (by simp)
                · rw [if_neg c14] at H
                  have c14b0 : decide ((a0.size : Int) ≤ (a2.size : Int)) = false := decide_eq_false c14
                  have c14b1 : decide (a0.size ≤ a2.size) = false := decide_eq_false (fun h => c14 (Int.ofNat_le.mpr h))
                  clear c14
                  by_cases c19 : (Op.bytesLess a2.toList a0.toList) = true
                  · rw [if_pos c19] at H
                    have c19b0 : (Op.bytesLess a2.toList a0.toList) = true := c19
                    clear c19
                    obtain rfl := Option.some.inj H
                    go_wp2
                    go_ret
                    exact ⟨by first | rfl | (simp [errW_none, errW_some] <;> rfl) | (simp [*, errW_none, errW_some] <;> rfl), by repeat (first | (with_reducible first | exact HB.out | apply below_alloc | apply pw_below_drewN | apply below_drew1) | exact HB.out)⟩
                  · rw [if_neg c19] at H
                    have c19b0 : (Op.bytesLess a2.toList a0.toList) = false := by simpa using c19
                    clear c19
                    obtain rfl := Option.some.inj H
                    go_wp2
                    go_ret
                    exact ⟨by first | rfl | (simp [errW_none, errW_some] <;> rfl) | (simp [*, errW_none, errW_some] <;> rfl), by repeat (first | (with_reducible first | exact HB.out | apply below_alloc | apply pw_below_drewN | apply below_drew1) | exact HB.out)⟩
              · rw [if_neg c13] at H
                have c13b0 : (Op.bytesLess ((a0 ++ a1).toList) t104.toList) = false := by simpa using c13
                clear c13
                obtain rfl := Option.some.inj H
                go_wp2
                go_ret
                exact ⟨by first | rfl | (simp [errW_none, errW_some] <;> rfl) | (simp [*, errW_none, errW_some] <;> rfl), by repeat (first | (with_reducible first | exact HB.out | apply below_alloc | apply pw_below_drewN | apply below_drew1) | exact HB.out)⟩
            · rw [if_neg c12] at H
              exact absurd H (by simp)
          · replace c11 := Bool.eq_false_iff.mpr c11
            subst c11
            have H1 : (some (t104.toList == ([] : List UInt8))) = some r := by rw [if_neg (show ¬ (false = true) by decide)] at H; exact H
            clear H
            have H := H1
            clear H1
            obtain rfl := Option.some.inj H
            go_wp2
            go_ret
            exact ⟨by first | rfl | (simp [errW_none, errW_some] <;> rfl) | (simp [*, errW_none, errW_some] <;> rfl), by repeat (first | (with_reducible first | exact HB.out | apply below_alloc | apply pw_below_drewN | apply below_drew1) | exact HB.out)⟩

/-- THE ONE PURE STATEMENT of stratalaw01_BitsAbove: yours. -/
def stratalaw01_BitsAbove.Pure : Prop := ∀ (a0 : ByteArray) (a1 : ByteArray) (a2 : ByteArray), a0.size ≤ 140737488351232 → a1.size ≤ 140737488351232 → a2.size ≤ 140737488351232 → ∃ k, stratalaw01_BitsAbove.f k a0 a1 a2 = some true
theorem stratalaw01_BitsAbove.walk (P : stratalaw01_BitsAbove.Pure) (a0 : ByteArray) (a1 : ByteArray) (a2 : ByteArray) (w : World) (w0 : a0.size ≤ 140737488351232) (w1 : a1.size ≤ 140737488351232) (w2 : a2.size ≤ 140737488351232) :
    Calls Try.prog 6 #[.string a0, .string a1, .string a2] w fun e w' => e = .returned (.bool true) ∧ Below w.heap.size w w' := by
  obtain ⟨k, h⟩ := P a0 a1 a2 w0 w1 w2
  refine (stratalaw01_BitsAbove.calls k a0 a1 a2 true w h).mono ?_
  rintro e w' ⟨rfl, hd⟩
  exact ⟨rfl, hd⟩

end Go.Proofs.Ytnanepgcaefhcaa.PBitsAbove
