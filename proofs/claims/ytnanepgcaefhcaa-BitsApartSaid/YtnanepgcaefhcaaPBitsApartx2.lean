-- PRINTED BY print.sh 35421559b90ae4d0a3588c463048766b98c2df88dd9212a6774a882060cdf62d: not written by this session
import Derived.Test.YtnanepgcaefhcaaPBitsApartx0
import Derived.Test.YtnanepgcaefhcaaPBitsApartx1
namespace Go.Proofs.Ytnanepgcaefhcaa.PBitsApart
open Go.RowKit Go.Proofs.YtnanepgcaefhcaaW.PrintWords Go.Proofs.YtnanepgcaefhcaaW.PrintLast Go.Proofs.YtnanepgcaefhcaaW.PrintMore
attribute [local go_sem] max2_int min2_int max_two min_two max_three min_three max_four min_four   -- for this text's walks alone
set_option linter.unusedVariables false
set_option linter.unusedSimpArgs false

/-! ### stratalaw01_BitsApart: function 9 -/
mutual
def stratalaw01_BitsApart.j0 : Nat → Int → Int → Int → Bool → Int → Int → Int → Int → Bool → Option (Bool)
  | 0, _, _, _, _, _, _, _, _, _ => none
  | k + 1, x0, x1, x2, x3, x9, x11, x13, x15, x67 => if x67 = true then (some false) else (if ((decide (x9 < x11)) != (decide (x0 < x1))) = true then (stratalaw01_BitsApart.j1 k x0 x2 x3 x9 x13 true) else (if ((x9 == x11) != (x0 == x1)) = true then (stratalaw01_BitsApart.j1 k x0 x2 x3 x9 x13 true) else (if ((x13 == x15) != (x0 == x1)) = true then (stratalaw01_BitsApart.j1 k x0 x2 x3 x9 x13 true) else (if x9 ≥ 9223372036854775807 then (stratalaw01_BitsApart.j1 k x0 x2 x3 x9 x13 true) else (stratalaw01_BitsApart.j1 k x0 x2 x3 x9 x13 (decide (x13 ≤ 9223372036854775807)))))))
def stratalaw01_BitsApart.j1 : Nat → Int → Int → Bool → Int → Int → Bool → Option (Bool)
  | 0, _, _, _, _, _, _ => none
  | k + 1, x0, x2, x3, x9, x13, x100 => if x100 = true then (some false) else ((bits_Split.f x9).bind fun bt113 => ((bits_Split.f x13).bind fun bt115 => ((bits_Split.f 9223372036854775807).bind fun bt117 => (if bt113.1 = 1 then (if bt113.2 = x0 then (if bt115.1 = 2 then (if bt115.2 = x0 then (stratalaw01_BitsApart.j2 k x2 x3 (bt117.1 != 3)) else (stratalaw01_BitsApart.j2 k x2 x3 true)) else (stratalaw01_BitsApart.j2 k x2 x3 true)) else (stratalaw01_BitsApart.j2 k x2 x3 true)) else (stratalaw01_BitsApart.j2 k x2 x3 true)))))
def stratalaw01_BitsApart.j2 : Nat → Int → Bool → Bool → Option (Bool)
  | 0, _, _, _ => none
  | k + 1, x2, x3, x134 => if x134 = true then (some false) else (if x2 < 0 then (stratalaw01_BitsApart.j3 k x2 x3 true) else (stratalaw01_BitsApart.j3 k x2 x3 (decide (x2 > 2147483647))))
def stratalaw01_BitsApart.j3 : Nat → Int → Bool → Bool → Option (Bool)
  | 0, _, _, _ => none
  | k + 1, x2, x3, x140 => if x140 = true then (some true) else ((bits_Link.f k x2 x3).bind fun bt119 => ((bits_OfLink.f bt119.1).bind fun bt121 => ((stratalaw01_num.f bt119.2).bind fun t124 => (if t124 = 0 then ((stratalaw01_num.f bt121.2.2).bind fun t125 => (if t125 = 0 then (if bt121.1 = x2 then (some (bt121.2.1 == x3)) else (some false)) else (some false))) else (some false)))))
end
def stratalaw01_BitsApart.f (k : Nat) (a0 : Int) (a1 : Int) (a2 : Int) (a3 : Bool) : Option (Bool) := (bits_TimeWord.f (Int.tmod a0 4611686018427387904)).bind fun bt101 => ((bits_TimeWord.f (Int.tmod a1 4611686018427387904)).bind fun bt103 => ((bits_TxnWord.f (Int.tmod a0 4611686018427387904)).bind fun bt105 => ((bits_TxnWord.f (Int.tmod a1 4611686018427387904)).bind fun bt107 => ((stratalaw01_num.f bt101.2).bind fun t109 => (if t109 = 0 then ((stratalaw01_num.f bt103.2).bind fun t110 => (if t110 = 0 then ((stratalaw01_num.f bt105.2).bind fun t111 => (if t111 = 0 then ((stratalaw01_num.f bt107.2).bind fun t112 => (stratalaw01_BitsApart.j0 k (Int.tmod a0 4611686018427387904) (Int.tmod a1 4611686018427387904) a2 a3 bt101.1 bt103.1 bt105.1 bt107.1 (t112 != 0))) else (stratalaw01_BitsApart.j0 k (Int.tmod a0 4611686018427387904) (Int.tmod a1 4611686018427387904) a2 a3 bt101.1 bt103.1 bt105.1 bt107.1 true))) else (stratalaw01_BitsApart.j0 k (Int.tmod a0 4611686018427387904) (Int.tmod a1 4611686018427387904) a2 a3 bt101.1 bt103.1 bt105.1 bt107.1 true))) else (stratalaw01_BitsApart.j0 k (Int.tmod a0 4611686018427387904) (Int.tmod a1 4611686018427387904) a2 a3 bt101.1 bt103.1 bt105.1 bt107.1 true))))))
theorem stratalaw01_BitsApart.mono_l : ∀ k, (∀ y0 y1 y2 y3 y4 y5 y6 y7 y8, LeO (stratalaw01_BitsApart.j0 k y0 y1 y2 y3 y4 y5 y6 y7 y8) (stratalaw01_BitsApart.j0 (k + 1) y0 y1 y2 y3 y4 y5 y6 y7 y8)) ∧ (∀ y0 y1 y2 y3 y4 y5, LeO (stratalaw01_BitsApart.j1 k y0 y1 y2 y3 y4 y5) (stratalaw01_BitsApart.j1 (k + 1) y0 y1 y2 y3 y4 y5)) ∧ (∀ y0 y1 y2, LeO (stratalaw01_BitsApart.j2 k y0 y1 y2) (stratalaw01_BitsApart.j2 (k + 1) y0 y1 y2)) ∧ (∀ y0 y1 y2, LeO (stratalaw01_BitsApart.j3 k y0 y1 y2) (stratalaw01_BitsApart.j3 (k + 1) y0 y1 y2))
  | 0 => ⟨fun _ _ _ _ _ _ _ _ _ r h => by simp [stratalaw01_BitsApart.j0] at h, fun _ _ _ _ _ _ r h => by simp [stratalaw01_BitsApart.j1] at h, fun _ _ _ r h => by simp [stratalaw01_BitsApart.j2] at h, fun _ _ _ r h => by simp [stratalaw01_BitsApart.j3] at h⟩
  | k + 1 => by
    obtain ⟨ih0, ih1, ih2, ih3⟩ := stratalaw01_BitsApart.mono_l k
    refine ⟨?_, ?_, ?_, ?_⟩
    · intro y0 y1 y2 y3 y4 y5 y6 y7 y8
      unfold stratalaw01_BitsApart.j0
      repeat' first
      | (with_reducible exact ih0 _ _ _ _ _ _ _ _ _)
      | (with_reducible exact ih1 _ _ _ _ _ _)
      | (with_reducible exact ih2 _ _ _)
      | (with_reducible exact ih3 _ _ _)
      | (with_reducible exact bits_Link.mono _ _ _)
      | (with_reducible exact LeO.refl _)
      | (with_reducible exact LeO.none _)
      | (with_reducible refine LeO.ite ?_ ?_)
      | (with_reducible refine LeO.bind ?_ (fun _ => ?_))
      | exact ih0 _ _ _ _ _ _ _ _ _
      | exact ih1 _ _ _ _ _ _
      | exact ih2 _ _ _
      | exact ih3 _ _ _
      | exact bits_Link.mono _ _ _
      | exact LeO.none _
      | refine LeO.ite ?_ ?_
      | refine LeO.bind ?_ (fun _ => ?_)
    · intro y0 y1 y2 y3 y4 y5
      unfold stratalaw01_BitsApart.j1
      repeat' first
      | (with_reducible exact ih0 _ _ _ _ _ _ _ _ _)
      | (with_reducible exact ih1 _ _ _ _ _ _)
      | (with_reducible exact ih2 _ _ _)
      | (with_reducible exact ih3 _ _ _)
      | (with_reducible exact bits_Link.mono _ _ _)
      | (with_reducible exact LeO.refl _)
      | (with_reducible exact LeO.none _)
      | (with_reducible refine LeO.ite ?_ ?_)
      | (with_reducible refine LeO.bind ?_ (fun _ => ?_))
      | exact ih0 _ _ _ _ _ _ _ _ _
      | exact ih1 _ _ _ _ _ _
      | exact ih2 _ _ _
      | exact ih3 _ _ _
      | exact bits_Link.mono _ _ _
      | exact LeO.none _
      | refine LeO.ite ?_ ?_
      | refine LeO.bind ?_ (fun _ => ?_)
    · intro y0 y1 y2
      unfold stratalaw01_BitsApart.j2
      repeat' first
      | (with_reducible exact ih0 _ _ _ _ _ _ _ _ _)
      | (with_reducible exact ih1 _ _ _ _ _ _)
      | (with_reducible exact ih2 _ _ _)
      | (with_reducible exact ih3 _ _ _)
      | (with_reducible exact bits_Link.mono _ _ _)
      | (with_reducible exact LeO.refl _)
      | (with_reducible exact LeO.none _)
      | (with_reducible refine LeO.ite ?_ ?_)
      | (with_reducible refine LeO.bind ?_ (fun _ => ?_))
      | exact ih0 _ _ _ _ _ _ _ _ _
      | exact ih1 _ _ _ _ _ _
      | exact ih2 _ _ _
      | exact ih3 _ _ _
      | exact bits_Link.mono _ _ _
      | exact LeO.none _
      | refine LeO.ite ?_ ?_
      | refine LeO.bind ?_ (fun _ => ?_)
    · intro y0 y1 y2
      unfold stratalaw01_BitsApart.j3
      repeat' first
      | (with_reducible exact ih0 _ _ _ _ _ _ _ _ _)
      | (with_reducible exact ih1 _ _ _ _ _ _)
      | (with_reducible exact ih2 _ _ _)
      | (with_reducible exact ih3 _ _ _)
      | (with_reducible exact bits_Link.mono _ _ _)
      | (with_reducible exact LeO.refl _)
      | (with_reducible exact LeO.none _)
      | (with_reducible refine LeO.ite ?_ ?_)
      | (with_reducible refine LeO.bind ?_ (fun _ => ?_))
      | exact ih0 _ _ _ _ _ _ _ _ _
      | exact ih1 _ _ _ _ _ _
      | exact ih2 _ _ _
      | exact ih3 _ _ _
      | exact bits_Link.mono _ _ _
      | exact LeO.none _
      | refine LeO.ite ?_ ?_
      | refine LeO.bind ?_ (fun _ => ?_)
theorem stratalaw01_BitsApart.mono : ∀ a0 a1 a2 a3 k, LeO (stratalaw01_BitsApart.f k a0 a1 a2 a3) (stratalaw01_BitsApart.f (k + 1) a0 a1 a2 a3) := by
  intro a0 a1 a2 a3 k
  obtain ⟨ih0, ih1, ih2, ih3⟩ := stratalaw01_BitsApart.mono_l k
  unfold stratalaw01_BitsApart.f
  repeat' first
      | (with_reducible exact ih0 _ _ _ _ _ _ _ _ _)
      | (with_reducible exact ih1 _ _ _ _ _ _)
      | (with_reducible exact ih2 _ _ _)
      | (with_reducible exact ih3 _ _ _)
      | (with_reducible exact bits_Link.mono _ _ _)
      | (with_reducible exact LeO.refl _)
      | (with_reducible exact LeO.none _)
      | (with_reducible refine LeO.ite ?_ ?_)
      | (with_reducible refine LeO.bind ?_ (fun _ => ?_))
      | exact ih0 _ _ _ _ _ _ _ _ _
      | exact ih1 _ _ _ _ _ _
      | exact ih2 _ _ _
      | exact ih3 _ _ _
      | exact bits_Link.mono _ _ _
      | exact LeO.none _
      | refine LeO.ite ?_ ?_
      | refine LeO.bind ?_ (fun _ => ?_)
set_option maxHeartbeats 8000000 in
set_option maxRecDepth 100000 in
theorem stratalaw01_BitsApart.calls (k : Nat) (a0 : Int) (a1 : Int) (a2 : Int) (a3 : Bool) (r : Bool) (w : World) (h : stratalaw01_BitsApart.f k a0 a1 a2 a3 = some r) :
    Calls Try.prog 9 #[.int .u64 a0, .int .u64 a1, .int .i64 a2, .bool a3] w fun e w' => e = .returned (.bool r) ∧ Drawn0 w w' := by
  have H : ((bits_TimeWord.f (Int.tmod a0 4611686018427387904)).bind fun bt101 => ((bits_TimeWord.f (Int.tmod a1 4611686018427387904)).bind fun bt103 => ((bits_TxnWord.f (Int.tmod a0 4611686018427387904)).bind fun bt105 => ((bits_TxnWord.f (Int.tmod a1 4611686018427387904)).bind fun bt107 => ((stratalaw01_num.f bt101.2).bind fun t109 => (if t109 = 0 then ((stratalaw01_num.f bt103.2).bind fun t110 => (if t110 = 0 then ((stratalaw01_num.f bt105.2).bind fun t111 => (if t111 = 0 then ((stratalaw01_num.f bt107.2).bind fun t112 => (stratalaw01_BitsApart.j0 k (Int.tmod a0 4611686018427387904) (Int.tmod a1 4611686018427387904) a2 a3 bt101.1 bt103.1 bt105.1 bt107.1 (t112 != 0))) else (stratalaw01_BitsApart.j0 k (Int.tmod a0 4611686018427387904) (Int.tmod a1 4611686018427387904) a2 a3 bt101.1 bt103.1 bt105.1 bt107.1 true))) else (stratalaw01_BitsApart.j0 k (Int.tmod a0 4611686018427387904) (Int.tmod a1 4611686018427387904) a2 a3 bt101.1 bt103.1 bt105.1 bt107.1 true))) else (stratalaw01_BitsApart.j0 k (Int.tmod a0 4611686018427387904) (Int.tmod a1 4611686018427387904) a2 a3 bt101.1 bt103.1 bt105.1 bt107.1 true))))))) = some r := h
  clear h
  replace H := Option.bind_eq_some_iff.mp H
  obtain ⟨⟨t101, t102⟩, A50, H⟩ := H
  replace H : ((bits_TimeWord.f (Int.tmod a1 4611686018427387904)).bind fun bt103 => ((bits_TxnWord.f (Int.tmod a0 4611686018427387904)).bind fun bt105 => ((bits_TxnWord.f (Int.tmod a1 4611686018427387904)).bind fun bt107 => ((stratalaw01_num.f t102).bind fun t109 => (if t109 = 0 then ((stratalaw01_num.f bt103.2).bind fun t110 => (if t110 = 0 then ((stratalaw01_num.f bt105.2).bind fun t111 => (if t111 = 0 then ((stratalaw01_num.f bt107.2).bind fun t112 => (stratalaw01_BitsApart.j0 k (Int.tmod a0 4611686018427387904) (Int.tmod a1 4611686018427387904) a2 a3 t101 bt103.1 bt105.1 bt107.1 (t112 != 0))) else (stratalaw01_BitsApart.j0 k (Int.tmod a0 4611686018427387904) (Int.tmod a1 4611686018427387904) a2 a3 t101 bt103.1 bt105.1 bt107.1 true))) else (stratalaw01_BitsApart.j0 k (Int.tmod a0 4611686018427387904) (Int.tmod a1 4611686018427387904) a2 a3 t101 bt103.1 bt105.1 bt107.1 true))) else (stratalaw01_BitsApart.j0 k (Int.tmod a0 4611686018427387904) (Int.tmod a1 4611686018427387904) a2 a3 t101 bt103.1 bt105.1 bt107.1 true)))))) = some r := H
  have A5 := Aside0.mk A50
  clear A50
  replace H := Option.bind_eq_some_iff.mp H
  obtain ⟨⟨t103, t104⟩, A60, H⟩ := H
  replace H : ((bits_TxnWord.f (Int.tmod a0 4611686018427387904)).bind fun bt105 => ((bits_TxnWord.f (Int.tmod a1 4611686018427387904)).bind fun bt107 => ((stratalaw01_num.f t102).bind fun t109 => (if t109 = 0 then ((stratalaw01_num.f t104).bind fun t110 => (if t110 = 0 then ((stratalaw01_num.f bt105.2).bind fun t111 => (if t111 = 0 then ((stratalaw01_num.f bt107.2).bind fun t112 => (stratalaw01_BitsApart.j0 k (Int.tmod a0 4611686018427387904) (Int.tmod a1 4611686018427387904) a2 a3 t101 t103 bt105.1 bt107.1 (t112 != 0))) else (stratalaw01_BitsApart.j0 k (Int.tmod a0 4611686018427387904) (Int.tmod a1 4611686018427387904) a2 a3 t101 t103 bt105.1 bt107.1 true))) else (stratalaw01_BitsApart.j0 k (Int.tmod a0 4611686018427387904) (Int.tmod a1 4611686018427387904) a2 a3 t101 t103 bt105.1 bt107.1 true))) else (stratalaw01_BitsApart.j0 k (Int.tmod a0 4611686018427387904) (Int.tmod a1 4611686018427387904) a2 a3 t101 t103 bt105.1 bt107.1 true))))) = some r := H
  have A6 := Aside0.mk A60
  clear A60
  replace H := Option.bind_eq_some_iff.mp H
  obtain ⟨⟨t105, t106⟩, A70, H⟩ := H
  replace H : ((bits_TxnWord.f (Int.tmod a1 4611686018427387904)).bind fun bt107 => ((stratalaw01_num.f t102).bind fun t109 => (if t109 = 0 then ((stratalaw01_num.f t104).bind fun t110 => (if t110 = 0 then ((stratalaw01_num.f t106).bind fun t111 => (if t111 = 0 then ((stratalaw01_num.f bt107.2).bind fun t112 => (stratalaw01_BitsApart.j0 k (Int.tmod a0 4611686018427387904) (Int.tmod a1 4611686018427387904) a2 a3 t101 t103 t105 bt107.1 (t112 != 0))) else (stratalaw01_BitsApart.j0 k (Int.tmod a0 4611686018427387904) (Int.tmod a1 4611686018427387904) a2 a3 t101 t103 t105 bt107.1 true))) else (stratalaw01_BitsApart.j0 k (Int.tmod a0 4611686018427387904) (Int.tmod a1 4611686018427387904) a2 a3 t101 t103 t105 bt107.1 true))) else (stratalaw01_BitsApart.j0 k (Int.tmod a0 4611686018427387904) (Int.tmod a1 4611686018427387904) a2 a3 t101 t103 t105 bt107.1 true)))) = some r := H
  have A7 := Aside0.mk A70
  clear A70
  replace H := Option.bind_eq_some_iff.mp H
  obtain ⟨⟨t107, t108⟩, A80, H⟩ := H
  replace H : ((stratalaw01_num.f t102).bind fun t109 => (if t109 = 0 then ((stratalaw01_num.f t104).bind fun t110 => (if t110 = 0 then ((stratalaw01_num.f t106).bind fun t111 => (if t111 = 0 then ((stratalaw01_num.f t108).bind fun t112 => (stratalaw01_BitsApart.j0 k (Int.tmod a0 4611686018427387904) (Int.tmod a1 4611686018427387904) a2 a3 t101 t103 t105 t107 (t112 != 0))) else (stratalaw01_BitsApart.j0 k (Int.tmod a0 4611686018427387904) (Int.tmod a1 4611686018427387904) a2 a3 t101 t103 t105 t107 true))) else (stratalaw01_BitsApart.j0 k (Int.tmod a0 4611686018427387904) (Int.tmod a1 4611686018427387904) a2 a3 t101 t103 t105 t107 true))) else (stratalaw01_BitsApart.j0 k (Int.tmod a0 4611686018427387904) (Int.tmod a1 4611686018427387904) a2 a3 t101 t103 t105 t107 true))) = some r := H
  have A8 := Aside0.mk A80
  clear A80
  have HC9 := Aside0.mk H
  clear H
  go_enter Try.func9, Try.ntmps9
  go_upto_region 7 with (first | ((with_reducible refine gate_callee (f := 27) rfl ?_); refine goesL_ (some 32) rfl rfl Try.func27 (by kernel_rfl) rfl #[.int .u64 (Int.tmod a0 4611686018427387904)] rfl (by (try simp only [List.map_toArray, List.map_cons, List.map_nil]); first | done | rfl | (simp only [List.length_drop, List.length_take]; rfl)) ?_; (with_reducible refine (bits_TimeWord.calls (Int.tmod a0 4611686018427387904) t101 t102 _ A5.out).mono ?_); rintro e w' ⟨rfl, ⟨nd, rfl⟩⟩; refine ⟨_, rfl, ?_⟩) | ((with_reducible refine gate_callee (f := 27) rfl ?_); refine goesL_ (some 37) rfl rfl Try.func27 (by kernel_rfl) rfl #[.int .u64 (Int.tmod a1 4611686018427387904)] rfl (by (try simp only [List.map_toArray, List.map_cons, List.map_nil]); first | done | rfl | (simp only [List.length_drop, List.length_take]; rfl)) ?_; (with_reducible refine (bits_TimeWord.calls (Int.tmod a1 4611686018427387904) t103 t104 _ A6.out).mono ?_); rintro e w' ⟨rfl, ⟨nd, rfl⟩⟩; refine ⟨_, rfl, ?_⟩) | ((with_reducible refine gate_callee (f := 29) rfl ?_); refine goesL_ (some 42) rfl rfl Try.func29 (by kernel_rfl) rfl #[.int .u64 (Int.tmod a0 4611686018427387904)] rfl (by (try simp only [List.map_toArray, List.map_cons, List.map_nil]); first | done | rfl | (simp only [List.length_drop, List.length_take]; rfl)) ?_; (with_reducible refine (bits_TxnWord.calls (Int.tmod a0 4611686018427387904) t105 t106 _ A7.out).mono ?_); rintro e w' ⟨rfl, ⟨nd, rfl⟩⟩; refine ⟨_, rfl, ?_⟩) | ((with_reducible refine gate_callee (f := 29) rfl ?_); refine goesL_ (some 47) rfl rfl Try.func29 (by kernel_rfl) rfl #[.int .u64 (Int.tmod a1 4611686018427387904)] rfl (by (try simp only [List.map_toArray, List.map_cons, List.map_nil]); first | done | rfl | (simp only [List.length_drop, List.length_take]; rfl)) ?_; (with_reducible refine (bits_TxnWord.calls (Int.tmod a1 4611686018427387904) t107 t108 _ A8.out).mono ?_); rintro e w' ⟨rfl, ⟨nd, rfl⟩⟩; refine ⟨_, rfl, ?_⟩))
  (try simp only [Act.put, List.setIfInBounds_toArray, List.set_cons_zero, List.set_cons_succ])
  go_cut [67] (fun v67 wc => ∃ (kq : Nat) (x67_8 : Bool), v67 = .bool x67_8 ∧ Aside0 (stratalaw01_BitsApart.j0 kq (Int.tmod a0 4611686018427387904) (Int.tmod a1 4611686018427387904) a2 a3 t101 t103 t105 t107 x67_8 = some r) ∧ Aside0 (kq ≤ k) ∧ Drawn0 w wc)
  case first =>
    have H := HC9.out
    clear HC9
    replace H := Option.bind_eq_some_iff.mp H
    obtain ⟨t109, A100, H⟩ := H
    replace H : (if t109 = 0 then ((stratalaw01_num.f t104).bind fun t110 => (if t110 = 0 then ((stratalaw01_num.f t106).bind fun t111 => (if t111 = 0 then ((stratalaw01_num.f t108).bind fun t112 => (stratalaw01_BitsApart.j0 k (Int.tmod a0 4611686018427387904) (Int.tmod a1 4611686018427387904) a2 a3 t101 t103 t105 t107 (t112 != 0))) else (stratalaw01_BitsApart.j0 k (Int.tmod a0 4611686018427387904) (Int.tmod a1 4611686018427387904) a2 a3 t101 t103 t105 t107 true))) else (stratalaw01_BitsApart.j0 k (Int.tmod a0 4611686018427387904) (Int.tmod a1 4611686018427387904) a2 a3 t101 t103 t105 t107 true))) else (stratalaw01_BitsApart.j0 k (Int.tmod a0 4611686018427387904) (Int.tmod a1 4611686018427387904) a2 a3 t101 t103 t105 t107 true)) = some r := H
    have A10 := Aside0.mk A100
    clear A100
    by_cases c11 : t109 = 0
    · rw [if_pos c11] at H
      have c11b0 : (t109 == 0) = true := beq_iff_eq.mpr c11
      have c11b1 : (t109 != 0) = false := bne_eq_false_iff_eq.mpr c11
      clear c11
      (first | rw [c11b0] | (simp only [i64_w, i32_w]; rw [c11b0]) | skip)
      replace H := Option.bind_eq_some_iff.mp H
      obtain ⟨t110, A120, H⟩ := H
      replace H : (if t110 = 0 then ((stratalaw01_num.f t106).bind fun t111 => (if t111 = 0 then ((stratalaw01_num.f t108).bind fun t112 => (stratalaw01_BitsApart.j0 k (Int.tmod a0 4611686018427387904) (Int.tmod a1 4611686018427387904) a2 a3 t101 t103 t105 t107 (t112 != 0))) else (stratalaw01_BitsApart.j0 k (Int.tmod a0 4611686018427387904) (Int.tmod a1 4611686018427387904) a2 a3 t101 t103 t105 t107 true))) else (stratalaw01_BitsApart.j0 k (Int.tmod a0 4611686018427387904) (Int.tmod a1 4611686018427387904) a2 a3 t101 t103 t105 t107 true)) = some r := H
      have A12 := Aside0.mk A120
      clear A120
      by_cases c13 : t110 = 0
      · rw [if_pos c13] at H
        have c13b0 : (t110 == 0) = true := beq_iff_eq.mpr c13
        have c13b1 : (t110 != 0) = false := bne_eq_false_iff_eq.mpr c13
        clear c13
        replace H := Option.bind_eq_some_iff.mp H
        obtain ⟨t111, A140, H⟩ := H
        replace H : (if t111 = 0 then ((stratalaw01_num.f t108).bind fun t112 => (stratalaw01_BitsApart.j0 k (Int.tmod a0 4611686018427387904) (Int.tmod a1 4611686018427387904) a2 a3 t101 t103 t105 t107 (t112 != 0))) else (stratalaw01_BitsApart.j0 k (Int.tmod a0 4611686018427387904) (Int.tmod a1 4611686018427387904) a2 a3 t101 t103 t105 t107 true)) = some r := H
        have A14 := Aside0.mk A140
        clear A140
        by_cases c15 : t111 = 0
        · rw [if_pos c15] at H
          have c15b0 : (t111 == 0) = true := beq_iff_eq.mpr c15
          have c15b1 : (t111 != 0) = false := bne_eq_false_iff_eq.mpr c15
          clear c15
          replace H := Option.bind_eq_some_iff.mp H
          obtain ⟨t112, A160, H⟩ := H
          replace H : (stratalaw01_BitsApart.j0 k (Int.tmod a0 4611686018427387904) (Int.tmod a1 4611686018427387904) a2 a3 t101 t103 t105 t107 (t112 != 0)) = some r := H
          have A16 := Aside0.mk A160
          clear A160
          have H' := Aside0.mk H
          clear H
          go_wp2_with (first | ((with_reducible refine gate_callee (f := 13) rfl ?_); refine goesL_ (some 51) rfl rfl Try.func13 (by kernel_rfl) rfl #[.int .i64 t102] rfl (by (try simp only [List.map_toArray, List.map_cons, List.map_nil]); first | done | rfl | (simp only [List.length_drop, List.length_take]; rfl)) ?_; (with_reducible refine (stratalaw01_num.calls t102 t109 _ A10.out).mono ?_); rintro e w' ⟨rfl, ⟨nd, rfl⟩⟩; refine ⟨_, rfl, ?_⟩) | (go_at_call 13; (with_reducible refine (stratalaw01_num.calls t104 t110 _ A12.out).mono ?_); rintro e w' ⟨rfl, ⟨nd, rfl⟩⟩) | (go_at_call 13; (with_reducible refine (stratalaw01_num.calls t106 t111 _ A14.out).mono ?_); rintro e w' ⟨rfl, ⟨nd, rfl⟩⟩) | (go_at_call 13; (with_reducible refine (stratalaw01_num.calls t108 t112 _ A16.out).mono ?_); rintro e w' ⟨rfl, ⟨nd, rfl⟩⟩))
          go_meet
          case rel => exact ⟨_, ((t112 != 0)), (by first | rfl | (simp; done) | (simp [*]; done)), H', ⟨by first | omega | exact Nat.le_refl _⟩, by repeat (first | exact Drawn0.refl _ | apply Drawn0.step)⟩
        · rw [if_neg c15] at H
          have c15b0 : (t111 == 0) = false := beq_eq_false_iff_ne.mpr c15
          have c15b1 : (t111 != 0) = true := bne_iff_ne.mpr c15
          have H' := Aside0.mk H
          clear H
          go_wp2_with (first | ((with_reducible refine gate_callee (f := 13) rfl ?_); refine goesL_ (some 51) rfl rfl Try.func13 (by kernel_rfl) rfl #[.int .i64 t102] rfl (by (try simp only [List.map_toArray, List.map_cons, List.map_nil]); first | done | rfl | (simp only [List.length_drop, List.length_take]; rfl)) ?_; (with_reducible refine (stratalaw01_num.calls t102 t109 _ A10.out).mono ?_); rintro e w' ⟨rfl, ⟨nd, rfl⟩⟩; refine ⟨_, rfl, ?_⟩) | (go_at_call 13; (with_reducible refine (stratalaw01_num.calls t104 t110 _ A12.out).mono ?_); rintro e w' ⟨rfl, ⟨nd, rfl⟩⟩) | (go_at_call 13; (with_reducible refine (stratalaw01_num.calls t106 t111 _ A14.out).mono ?_); rintro e w' ⟨rfl, ⟨nd, rfl⟩⟩))
          go_meet
          case rel => exact ⟨_, (true), (by first | rfl | (simp; done) | (simp [*]; done)), H', ⟨by first | omega | exact Nat.le_refl _⟩, by repeat (first | exact Drawn0.refl _ | apply Drawn0.step)⟩
      · rw [if_neg c13] at H
        have c13b0 : (t110 == 0) = false := beq_eq_false_iff_ne.mpr c13
        have c13b1 : (t110 != 0) = true := bne_iff_ne.mpr c13
        have H' := Aside0.mk H
        clear H
        go_wp2_with (first | ((with_reducible refine gate_callee (f := 13) rfl ?_); refine goesL_ (some 51) rfl rfl Try.func13 (by kernel_rfl) rfl #[.int .i64 t102] rfl (by (try simp only [List.map_toArray, List.map_cons, List.map_nil]); first | done | rfl | (simp only [List.length_drop, List.length_take]; rfl)) ?_; (with_reducible refine (stratalaw01_num.calls t102 t109 _ A10.out).mono ?_); rintro e w' ⟨rfl, ⟨nd, rfl⟩⟩; refine ⟨_, rfl, ?_⟩) | (go_at_call 13; (with_reducible refine (stratalaw01_num.calls t104 t110 _ A12.out).mono ?_); rintro e w' ⟨rfl, ⟨nd, rfl⟩⟩))
        go_meet
        case rel => exact ⟨_, (true), (by first | rfl | (simp; done) | (simp [*]; done)), H', ⟨by first | omega | exact Nat.le_refl _⟩, by repeat (first | exact Drawn0.refl _ | apply Drawn0.step)⟩
    · rw [if_neg c11] at H
      have c11b0 : (t109 == 0) = false := beq_eq_false_iff_ne.mpr c11
      have c11b1 : (t109 != 0) = true := bne_iff_ne.mpr c11
      (first | rw [c11b0] | (simp only [i64_w, i32_w]; rw [c11b0]) | skip)
      have H' := Aside0.mk H
      clear H
      go_wp2_with (first | ((with_reducible refine gate_callee (f := 13) rfl ?_); refine goesL_ (some 51) rfl rfl Try.func13 (by kernel_rfl) rfl #[.int .i64 t102] rfl (by (try simp only [List.map_toArray, List.map_cons, List.map_nil]); first | done | rfl | (simp only [List.length_drop, List.length_take]; rfl)) ?_; (with_reducible refine (stratalaw01_num.calls t102 t109 _ A10.out).mono ?_); rintro e w' ⟨rfl, ⟨nd, rfl⟩⟩; refine ⟨_, rfl, ?_⟩))
      go_meet
      case rel => exact ⟨_, (true), (by first | rfl | (simp; done) | (simp [*]; done)), H', ⟨by first | omega | exact Nat.le_refl _⟩, by repeat (first | exact Drawn0.refl _ | apply Drawn0.step)⟩
  case rest =>
    clear HC9
    try clear c1
    try clear c2
    try clear p2
    try clear c9
    try clear c11
    try clear c11b0
    try clear c11b1
    try clear c13
    try clear c13b0
    try clear c13b1
    try clear c15
    try clear c15b0
    try clear c15b1
    obtain ⟨kq, x67_8, rfl, HA, HJ8, ⟨mc8, rfl⟩⟩ := hcut
    cases kq with
    | zero => exact absurd HA.out (by simp [stratalaw01_BitsApart.j0])
    | succ kj8 =>
      have H := HA.out
      clear HA
      simp only [stratalaw01_BitsApart.j0] at H
      by_cases c17 : x67_8 = true
      · subst c17
        have H1 : (some false) = some r := by rw [if_pos rfl] at H; exact H
        clear H
        have H := H1
        clear H1
        obtain rfl := Option.some.inj H
        go_wp2
        go_ret
        exact ⟨by first | rfl | (simp; done) | (simp [*]; done), by repeat (first | exact Drawn0.refl _ | apply Drawn0.step)⟩
      · replace c17 := Bool.eq_false_iff.mpr c17
        subst c17
        have H1 : (if ((decide (t101 < t103)) != (decide ((Int.tmod a0 4611686018427387904) < (Int.tmod a1 4611686018427387904)))) = true then (stratalaw01_BitsApart.j1 kj8 (Int.tmod a0 4611686018427387904) a2 a3 t101 t105 true) else (if ((t101 == t103) != ((Int.tmod a0 4611686018427387904) == (Int.tmod a1 4611686018427387904))) = true then (stratalaw01_BitsApart.j1 kj8 (Int.tmod a0 4611686018427387904) a2 a3 t101 t105 true) else (if ((t105 == t107) != ((Int.tmod a0 4611686018427387904) == (Int.tmod a1 4611686018427387904))) = true then (stratalaw01_BitsApart.j1 kj8 (Int.tmod a0 4611686018427387904) a2 a3 t101 t105 true) else (if t101 ≥ 9223372036854775807 then (stratalaw01_BitsApart.j1 kj8 (Int.tmod a0 4611686018427387904) a2 a3 t101 t105 true) else (stratalaw01_BitsApart.j1 kj8 (Int.tmod a0 4611686018427387904) a2 a3 t101 t105 (decide (t105 ≤ 9223372036854775807))))))) = some r := by rw [if_neg (show ¬ (false = true) by decide)] at H; exact H
        clear H
        have H := H1
        clear H1
        have HC18 := Aside0.mk H
        clear H
        go_upto_region 9 with (fail)
        go_cut [100] (fun v100 wc => ∃ (kq : Nat) (x100_17 : Bool), v100 = .bool x100_17 ∧ Aside0 (stratalaw01_BitsApart.j1 kq (Int.tmod a0 4611686018427387904) a2 a3 t101 t105 x100_17 = some r) ∧ Aside0 (kq ≤ kj8) ∧ Drawn0 w wc)
        case first =>
          have H := HC18.out
          clear HC18
          by_cases c19 : ((decide (t101 < t103)) != (decide ((Int.tmod a0 4611686018427387904) < (Int.tmod a1 4611686018427387904)))) = true
          · rw [if_pos c19] at H
            have c19b0 : ((decide (t101 < t103)) != (decide ((Int.tmod a0 4611686018427387904) < (Int.tmod a1 4611686018427387904)))) = true := c19
            (try (have c19b1 : decide ((decide (t101 < t103)) = (decide ((Int.tmod a0 4611686018427387904) < (Int.tmod a1 4611686018427387904)))) = false := by simpa using c19))
            (try (have c19b2 : ((decide (t101 < t103)) == (decide ((Int.tmod a0 4611686018427387904) < (Int.tmod a1 4611686018427387904)))) = false := by simpa using c19))
            (try (have c19b3 : ¬ ((decide (t101 < t103)) = (decide ((Int.tmod a0 4611686018427387904) < (Int.tmod a1 4611686018427387904)))) := by simpa using c19))
            clear c19
            (first | rw [c19b0] | (simp only [i64_w, i32_w]; rw [c19b0]) | skip)
            have H' := Aside0.mk H
            clear H
            go_wp2
            go_meet
            case rel => exact ⟨_, (true), (by first | rfl | (simp; done) | (simp [*]; done)), H', ⟨by have := HJ8.out; first | omega | exact Nat.le_refl _⟩, by repeat (first | exact Drawn0.refl _ | apply Drawn0.step)⟩
          · rw [if_neg c19] at H
            have c19b0 : ((decide (t101 < t103)) != (decide ((Int.tmod a0 4611686018427387904) < (Int.tmod a1 4611686018427387904)))) = false := by simpa using c19
            (try (have c19b1 : decide ((decide (t101 < t103)) = (decide ((Int.tmod a0 4611686018427387904) < (Int.tmod a1 4611686018427387904)))) = true := by simpa using c19))
            (try (have c19b2 : ((decide (t101 < t103)) == (decide ((Int.tmod a0 4611686018427387904) < (Int.tmod a1 4611686018427387904)))) = true := by simpa using c19))
            clear c19
            (first | rw [c19b0] | (simp only [i64_w, i32_w]; rw [c19b0]) | skip)
            by_cases c20 : ((t101 == t103) != ((Int.tmod a0 4611686018427387904) == (Int.tmod a1 4611686018427387904))) = true
            · rw [if_pos c20] at H
              have c20b0 : ((t101 == t103) != ((Int.tmod a0 4611686018427387904) == (Int.tmod a1 4611686018427387904))) = true := c20
              (try (have c20b1 : decide ((t101 == t103) = ((Int.tmod a0 4611686018427387904) == (Int.tmod a1 4611686018427387904))) = false := by simpa using c20))
              (try (have c20b2 : ((t101 == t103) == ((Int.tmod a0 4611686018427387904) == (Int.tmod a1 4611686018427387904))) = false := by simpa using c20))
              (try (have c20b3 : ¬ ((t101 == t103) = ((Int.tmod a0 4611686018427387904) == (Int.tmod a1 4611686018427387904))) := by simpa using c20))
              clear c20
              have H' := Aside0.mk H
              clear H
              go_wp2
              go_meet
              case rel => exact ⟨_, (true), (by first | rfl | (simp; done) | (simp [*]; done)), H', ⟨by have := HJ8.out; first | omega | exact Nat.le_refl _⟩, by repeat (first | exact Drawn0.refl _ | apply Drawn0.step)⟩
            · rw [if_neg c20] at H
              have c20b0 : ((t101 == t103) != ((Int.tmod a0 4611686018427387904) == (Int.tmod a1 4611686018427387904))) = false := by simpa using c20
              (try (have c20b1 : decide ((t101 == t103) = ((Int.tmod a0 4611686018427387904) == (Int.tmod a1 4611686018427387904))) = true := by simpa using c20))
              (try (have c20b2 : ((t101 == t103) == ((Int.tmod a0 4611686018427387904) == (Int.tmod a1 4611686018427387904))) = true := by simpa using c20))
              clear c20
              by_cases c21 : ((t105 == t107) != ((Int.tmod a0 4611686018427387904) == (Int.tmod a1 4611686018427387904))) = true
              · rw [if_pos c21] at H
                have c21b0 : ((t105 == t107) != ((Int.tmod a0 4611686018427387904) == (Int.tmod a1 4611686018427387904))) = true := c21
                (try (have c21b1 : decide ((t105 == t107) = ((Int.tmod a0 4611686018427387904) == (Int.tmod a1 4611686018427387904))) = false := by simpa using c21))
                (try (have c21b2 : ((t105 == t107) == ((Int.tmod a0 4611686018427387904) == (Int.tmod a1 4611686018427387904))) = false := by simpa using c21))
                (try (have c21b3 : ¬ ((t105 == t107) = ((Int.tmod a0 4611686018427387904) == (Int.tmod a1 4611686018427387904))) := by simpa using c21))
                clear c21
                have H' := Aside0.mk H
                clear H
                go_wp2
                go_meet
                case rel => exact ⟨_, (true), (by first | rfl | (simp; done) | (simp [*]; done)), H', ⟨by have := HJ8.out; first | omega | exact Nat.le_refl _⟩, by repeat (first | exact Drawn0.refl _ | apply Drawn0.step)⟩
              · rw [if_neg c21] at H
                have c21b0 : ((t105 == t107) != ((Int.tmod a0 4611686018427387904) == (Int.tmod a1 4611686018427387904))) = false := by simpa using c21
                (try (have c21b1 : decide ((t105 == t107) = ((Int.tmod a0 4611686018427387904) == (Int.tmod a1 4611686018427387904))) = true := by simpa using c21))
                (try (have c21b2 : ((t105 == t107) == ((Int.tmod a0 4611686018427387904) == (Int.tmod a1 4611686018427387904))) = true := by simpa using c21))
                clear c21
                by_cases c22 : t101 ≥ 9223372036854775807
                · rw [if_pos c22] at H
                  have c22b0 : decide (9223372036854775807 ≤ t101) = true := decide_eq_true c22
                  clear c22
                  have H' := Aside0.mk H
                  clear H
                  go_wp2
                  go_meet
                  case rel => exact ⟨_, (true), (by first | rfl | (simp; done) | (simp [*]; done)), H', ⟨by have := HJ8.out; first | omega | exact Nat.le_refl _⟩, by repeat (first | exact Drawn0.refl _ | apply Drawn0.step)⟩
                · rw [if_neg c22] at H
                  have c22b0 : decide (9223372036854775807 ≤ t101) = false := decide_eq_false c22
                  clear c22
                  have H' := Aside0.mk H
                  clear H
                  go_wp2
                  go_meet
                  case rel => exact ⟨_, (decide (t105 ≤ 9223372036854775807)), (by first | rfl | (simp; done) | (simp [*]; done)), H', ⟨by have := HJ8.out; first | omega | exact Nat.le_refl _⟩, by repeat (first | exact Drawn0.refl _ | apply Drawn0.step)⟩
        case rest =>
          clear HC18
          try clear c1
          try clear c2
          try clear p2
          try clear c8
          try clear c9
          try clear c11
          try clear c11b0
          try clear c11b1
          try clear c13
          try clear c13b0
          try clear c13b1
          try clear c15
          try clear c15b0
          try clear c15b1
          try clear c17
          try clear c19
          try clear c19b0
          try clear c19b1
          try clear c19b2
          try clear c20
          try clear c20b0
          try clear c20b1
          try clear c20b2
          try clear c21
          try clear c21b0
          try clear c21b1
          try clear c21b2
          try clear c22
          try clear c22b0
          try clear p2
          obtain ⟨kq, x100_17, rfl, HA, HJ17, ⟨mc17, rfl⟩⟩ := hcut
          cases kq with
          | zero => exact absurd HA.out (by simp [stratalaw01_BitsApart.j1])
          | succ kj17 =>
            have H := HA.out
            clear HA
            simp only [stratalaw01_BitsApart.j1] at H
            by_cases c23 : x100_17 = true
            · subst c23
              have H1 : (some false) = some r := by rw [if_pos rfl] at H; exact H
              clear H
              have H := H1
              clear H1
              obtain rfl := Option.some.inj H
              go_wp2
              go_ret
              exact ⟨by first | rfl | (simp; done) | (simp [*]; done), by repeat (first | exact Drawn0.refl _ | apply Drawn0.step)⟩
            · replace c23 := Bool.eq_false_iff.mpr c23
              subst c23
              have H1 : ((bits_Split.f t101).bind fun bt113 => ((bits_Split.f t105).bind fun bt115 => ((bits_Split.f 9223372036854775807).bind fun bt117 => (if bt113.1 = 1 then (if bt113.2 = (Int.tmod a0 4611686018427387904) then (if bt115.1 = 2 then (if bt115.2 = (Int.tmod a0 4611686018427387904) then (stratalaw01_BitsApart.j2 kj17 a2 a3 (bt117.1 != 3)) else (stratalaw01_BitsApart.j2 kj17 a2 a3 true)) else (stratalaw01_BitsApart.j2 kj17 a2 a3 true)) else (stratalaw01_BitsApart.j2 kj17 a2 a3 true)) else (stratalaw01_BitsApart.j2 kj17 a2 a3 true))))) = some r := by rw [if_neg (show ¬ (false = true) by decide)] at H; exact H
              clear H
              have H := H1
              clear H1
              replace H := Option.bind_eq_some_iff.mp H
              obtain ⟨⟨t113, t114⟩, A240, H⟩ := H
              replace H : ((bits_Split.f t105).bind fun bt115 => ((bits_Split.f 9223372036854775807).bind fun bt117 => (if t113 = 1 then (if t114 = (Int.tmod a0 4611686018427387904) then (if bt115.1 = 2 then (if bt115.2 = (Int.tmod a0 4611686018427387904) then (stratalaw01_BitsApart.j2 kj17 a2 a3 (bt117.1 != 3)) else (stratalaw01_BitsApart.j2 kj17 a2 a3 true)) else (stratalaw01_BitsApart.j2 kj17 a2 a3 true)) else (stratalaw01_BitsApart.j2 kj17 a2 a3 true)) else (stratalaw01_BitsApart.j2 kj17 a2 a3 true)))) = some r := H
              have A24 := Aside0.mk A240
              clear A240
              replace H := Option.bind_eq_some_iff.mp H
              obtain ⟨⟨t115, t116⟩, A250, H⟩ := H
              replace H : ((bits_Split.f 9223372036854775807).bind fun bt117 => (if t113 = 1 then (if t114 = (Int.tmod a0 4611686018427387904) then (if t115 = 2 then (if t116 = (Int.tmod a0 4611686018427387904) then (stratalaw01_BitsApart.j2 kj17 a2 a3 (bt117.1 != 3)) else (stratalaw01_BitsApart.j2 kj17 a2 a3 true)) else (stratalaw01_BitsApart.j2 kj17 a2 a3 true)) else (stratalaw01_BitsApart.j2 kj17 a2 a3 true)) else (stratalaw01_BitsApart.j2 kj17 a2 a3 true))) = some r := H
              have A25 := Aside0.mk A250
              clear A250
              replace H := Option.bind_eq_some_iff.mp H
              obtain ⟨⟨t117, t118⟩, A260, H⟩ := H
              replace H : (if t113 = 1 then (if t114 = (Int.tmod a0 4611686018427387904) then (if t115 = 2 then (if t116 = (Int.tmod a0 4611686018427387904) then (stratalaw01_BitsApart.j2 kj17 a2 a3 (t117 != 3)) else (stratalaw01_BitsApart.j2 kj17 a2 a3 true)) else (stratalaw01_BitsApart.j2 kj17 a2 a3 true)) else (stratalaw01_BitsApart.j2 kj17 a2 a3 true)) else (stratalaw01_BitsApart.j2 kj17 a2 a3 true)) = some r := H
              have A26 := Aside0.mk A260
              clear A260
              have HC27 := Aside0.mk H
              clear H
              go_upto_region 14 with (first | ((with_reducible refine gate_callee (f := 31) rfl ?_); refine goesL_ (some 103) rfl rfl Try.func31 (by kernel_rfl) rfl #[.int .u64 t101] rfl (by (try simp only [List.map_toArray, List.map_cons, List.map_nil]); first | done | rfl | (simp only [List.length_drop, List.length_take]; rfl)) ?_; (with_reducible refine (bits_Split.calls t101 t113 t114 _ A24.out).mono ?_); rintro e w' ⟨rfl, ⟨nd, rfl⟩⟩; refine ⟨_, rfl, ?_⟩) | ((with_reducible refine gate_callee (f := 31) rfl ?_); refine goesL_ (some 108) rfl rfl Try.func31 (by kernel_rfl) rfl #[.int .u64 t105] rfl (by (try simp only [List.map_toArray, List.map_cons, List.map_nil]); first | done | rfl | (simp only [List.length_drop, List.length_take]; rfl)) ?_; (with_reducible refine (bits_Split.calls t105 t115 t116 _ A25.out).mono ?_); rintro e w' ⟨rfl, ⟨nd, rfl⟩⟩; refine ⟨_, rfl, ?_⟩) | ((with_reducible refine gate_callee (f := 31) rfl ?_); refine goesL_ (some 112) rfl rfl Try.func31 (by kernel_rfl) rfl #[.int .u64 9223372036854775807] rfl (by (try simp only [List.map_toArray, List.map_cons, List.map_nil]); first | done | rfl | (simp only [List.length_drop, List.length_take]; rfl)) ?_; (with_reducible refine (bits_Split.calls 9223372036854775807 t117 t118 _ A26.out).mono ?_); rintro e w' ⟨rfl, ⟨nd, rfl⟩⟩; refine ⟨_, rfl, ?_⟩))
              (try simp only [Act.put, List.setIfInBounds_toArray, List.set_cons_zero, List.set_cons_succ])
              go_cut [134] (fun v134 wc => ∃ (kq : Nat) (x134_26 : Bool), v134 = .bool x134_26 ∧ Aside0 (stratalaw01_BitsApart.j2 kq a2 a3 x134_26 = some r) ∧ Aside0 (kq ≤ kj17) ∧ Drawn0 w wc)
              case first =>
                have H := HC27.out
                clear HC27
                by_cases c28 : t113 = 1
                · rw [if_pos c28] at H
                  have c28b0 : (t113 == 1) = true := beq_iff_eq.mpr c28
                  have c28b1 : (t113 != 1) = false := bne_eq_false_iff_eq.mpr c28
                  clear c28
                  (first | rw [c28b0] | (simp only [i64_w, i32_w]; rw [c28b0]) | skip)
                  by_cases c29 : t114 = (Int.tmod a0 4611686018427387904)
                  · rw [if_pos c29] at H
                    have c29b0 : (t114 == (Int.tmod a0 4611686018427387904)) = true := beq_iff_eq.mpr c29
                    have c29b1 : (t114 != (Int.tmod a0 4611686018427387904)) = false := bne_eq_false_iff_eq.mpr c29
                    clear c29
                    by_cases c30 : t115 = 2
                    · rw [if_pos c30] at H
                      have c30b0 : (t115 == 2) = true := beq_iff_eq.mpr c30
                      have c30b1 : (t115 != 2) = false := bne_eq_false_iff_eq.mpr c30
                      clear c30
                      by_cases c31 : t116 = (Int.tmod a0 4611686018427387904)
                      · rw [if_pos c31] at H
                        have c31b0 : (t116 == (Int.tmod a0 4611686018427387904)) = true := beq_iff_eq.mpr c31
                        have c31b1 : (t116 != (Int.tmod a0 4611686018427387904)) = false := bne_eq_false_iff_eq.mpr c31
                        clear c31
                        have H' := Aside0.mk H
                        clear H
                        go_wp2
                        go_meet
                        case rel => exact ⟨_, ((t117 != 3)), (by first | rfl | (simp; done) | (simp [*]; done)), H', ⟨by have := HJ8.out; have := HJ17.out; first | omega | exact Nat.le_refl _⟩, by repeat (first | exact Drawn0.refl _ | apply Drawn0.step)⟩
                      · rw [if_neg c31] at H
                        have c31b0 : (t116 == (Int.tmod a0 4611686018427387904)) = false := beq_eq_false_iff_ne.mpr c31
                        have c31b1 : (t116 != (Int.tmod a0 4611686018427387904)) = true := bne_iff_ne.mpr c31
                        have H' := Aside0.mk H
                        clear H
                        go_wp2
                        go_meet
                        case rel => exact ⟨_, (true), (by first | rfl | (simp; done) | (simp [*]; done)), H', ⟨by have := HJ8.out; have := HJ17.out; first | omega | exact Nat.le_refl _⟩, by repeat (first | exact Drawn0.refl _ | apply Drawn0.step)⟩
                    · rw [if_neg c30] at H
                      have c30b0 : (t115 == 2) = false := beq_eq_false_iff_ne.mpr c30
                      have c30b1 : (t115 != 2) = true := bne_iff_ne.mpr c30
                      have H' := Aside0.mk H
                      clear H
                      go_wp2
                      go_meet
                      case rel => exact ⟨_, (true), (by first | rfl | (simp; done) | (simp [*]; done)), H', ⟨by have := HJ8.out; have := HJ17.out; first | omega | exact Nat.le_refl _⟩, by repeat (first | exact Drawn0.refl _ | apply Drawn0.step)⟩
                  · rw [if_neg c29] at H
                    have c29b0 : (t114 == (Int.tmod a0 4611686018427387904)) = false := beq_eq_false_iff_ne.mpr c29
                    have c29b1 : (t114 != (Int.tmod a0 4611686018427387904)) = true := bne_iff_ne.mpr c29
                    have H' := Aside0.mk H
                    clear H
                    go_wp2
                    go_meet
                    case rel => exact ⟨_, (true), (by first | rfl | (simp; done) | (simp [*]; done)), H', ⟨by have := HJ8.out; have := HJ17.out; first | omega | exact Nat.le_refl _⟩, by repeat (first | exact Drawn0.refl _ | apply Drawn0.step)⟩
                · rw [if_neg c28] at H
                  have c28b0 : (t113 == 1) = false := beq_eq_false_iff_ne.mpr c28
                  have c28b1 : (t113 != 1) = true := bne_iff_ne.mpr c28
                  (first | rw [c28b0] | (simp only [i64_w, i32_w]; rw [c28b0]) | skip)
                  have H' := Aside0.mk H
                  clear H
                  go_wp2
                  go_meet
                  case rel => exact ⟨_, (true), (by first | rfl | (simp; done) | (simp [*]; done)), H', ⟨by have := HJ8.out; have := HJ17.out; first | omega | exact Nat.le_refl _⟩, by repeat (first | exact Drawn0.refl _ | apply Drawn0.step)⟩
              case rest =>
                clear HC27
                try clear c1
                try clear c2
                try clear p2
                try clear c3
                try clear c8
                try clear c9
                try clear c11
                try clear c11b0
                try clear c11b1
                try clear c13
                try clear c13b0
                try clear c13b1
                try clear c15
                try clear c15b0
                try clear c15b1
                try clear c17
                try clear c19
                try clear c19b0
                try clear c19b1
                try clear c19b2
                try clear c20
                try clear c20b0
                try clear c20b1
                try clear c20b2
                try clear c21
                try clear c21b0
                try clear c21b1
                try clear c21b2
                try clear c22
                try clear c22b0
                try clear c23
                try clear c27
                try clear c28
                try clear c28b0
                try clear c28b1
                try clear c29
                try clear c29b0
                try clear c29b1
                try clear c30
                try clear c30b0
                try clear c30b1
                try clear c31
                try clear c31b0
                try clear c31b1
                try clear p2
                obtain ⟨kq, x134_26, rfl, HA, HJ26, ⟨mc26, rfl⟩⟩ := hcut
                cases kq with
                | zero => exact absurd HA.out (by simp [stratalaw01_BitsApart.j2])
                | succ kj26 =>
                  have H := HA.out
                  clear HA
                  simp only [stratalaw01_BitsApart.j2] at H
                  by_cases c32 : x134_26 = true
                  · subst c32
                    have H1 : (some false) = some r := by rw [if_pos rfl] at H; exact H
                    clear H
                    have H := H1
                    clear H1
                    obtain rfl := Option.some.inj H
                    go_wp2
                    go_ret
                    exact ⟨by first | rfl | (simp; done) | (simp [*]; done), by repeat (first | exact Drawn0.refl _ | apply Drawn0.step)⟩
                  · replace c32 := Bool.eq_false_iff.mpr c32
                    subst c32
                    have H1 : (if a2 < 0 then (stratalaw01_BitsApart.j3 kj26 a2 a3 true) else (stratalaw01_BitsApart.j3 kj26 a2 a3 (decide (a2 > 2147483647)))) = some r := by rw [if_neg (show ¬ (false = true) by decide)] at H; exact H
                    clear H
                    have H := H1
                    clear H1
                    have HC33 := Aside0.mk H
                    clear H
                    go_upto_region 16 with (fail)
                    go_cut [140] (fun v140 wc => ∃ (kq : Nat) (x140_32 : Bool), v140 = .bool x140_32 ∧ Aside0 (stratalaw01_BitsApart.j3 kq a2 a3 x140_32 = some r) ∧ Aside0 (kq ≤ kj26) ∧ Drawn0 w wc)
                    case first =>
                      have H := HC33.out
                      clear HC33
                      by_cases c34 : a2 < 0
                      · rw [if_pos c34] at H
                        have c34b0 : decide (a2 < 0) = true := decide_eq_true c34
                        clear c34
                        (first | rw [c34b0] | (simp only [i64_w, i32_w]; rw [c34b0]) | skip)
                        have H' := Aside0.mk H
                        clear H
                        go_wp2
                        go_meet
                        case rel => exact ⟨_, (true), (by first | rfl | (simp; done) | (simp [*]; done)), H', ⟨by have := HJ8.out; have := HJ17.out; have := HJ26.out; first | omega | exact Nat.le_refl _⟩, by repeat (first | exact Drawn0.refl _ | apply Drawn0.step)⟩
                      · rw [if_neg c34] at H
                        have c34b0 : decide (a2 < 0) = false := decide_eq_false c34
                        clear c34
                        (first | rw [c34b0] | (simp only [i64_w, i32_w]; rw [c34b0]) | skip)
                        have H' := Aside0.mk H
                        clear H
                        go_wp2
                        go_meet
                        case rel => exact ⟨_, (decide (a2 > 2147483647)), (by first | rfl | (simp; done) | (simp [*]; done)), H', ⟨by have := HJ8.out; have := HJ17.out; have := HJ26.out; first | omega | exact Nat.le_refl _⟩, by repeat (first | exact Drawn0.refl _ | apply Drawn0.step)⟩
                    case rest =>
                      clear HC33
                      try clear c1
                      try clear c2
                      try clear p2
                      try clear c3
                      try clear c8
                      try clear c9
                      try clear c11
                      try clear c11b0
                      try clear c11b1
                      try clear c13
                      try clear c13b0
                      try clear c13b1
                      try clear c15
                      try clear c15b0
                      try clear c15b1
                      try clear c17
                      try clear c19
                      try clear c19b0
                      try clear c19b1
                      try clear c19b2
                      try clear c20
                      try clear c20b0
                      try clear c20b1
                      try clear c20b2
                      try clear c21
                      try clear c21b0
                      try clear c21b1
                      try clear c21b2
                      try clear c22
                      try clear c22b0
                      try clear c23
                      try clear c26
                      try clear c27
                      try clear c28
                      try clear c28b0
                      try clear c28b1
                      try clear c29
                      try clear c29b0
                      try clear c29b1
                      try clear c30
                      try clear c30b0
                      try clear c30b1
                      try clear c31
                      try clear c31b0
                      try clear c31b1
                      try clear c32
                      try clear c34
                      try clear c34b0
                      try clear p2
                      obtain ⟨kq, x140_32, rfl, HA, HJ32, ⟨mc32, rfl⟩⟩ := hcut
                      cases kq with
                      | zero => exact absurd HA.out (by simp [stratalaw01_BitsApart.j3])
                      | succ kj32 =>
                        have H := HA.out
                        clear HA
                        simp only [stratalaw01_BitsApart.j3] at H
                        by_cases c35 : x140_32 = true
                        · subst c35
                          have H1 : (some true) = some r := by rw [if_pos rfl] at H; exact H
                          clear H
                          have H := H1
                          clear H1
                          obtain rfl := Option.some.inj H
                          go_wp2
                          go_ret
                          exact ⟨by first | rfl | (simp; done) | (simp [*]; done), by repeat (first | exact Drawn0.refl _ | apply Drawn0.step)⟩
                        · replace c35 := Bool.eq_false_iff.mpr c35
                          subst c35
                          have H1 : ((bits_Link.f kj32 a2 a3).bind fun bt119 => ((bits_OfLink.f bt119.1).bind fun bt121 => ((stratalaw01_num.f bt119.2).bind fun t124 => (if t124 = 0 then ((stratalaw01_num.f bt121.2.2).bind fun t125 => (if t125 = 0 then (if bt121.1 = a2 then (some (bt121.2.1 == a3)) else (some false)) else (some false))) else (some false))))) = some r := by rw [if_neg (show ¬ (false = true) by decide)] at H; exact H
                          clear H
                          have H := H1
                          clear H1
                          replace H := Option.bind_eq_some_iff.mp H
                          obtain ⟨⟨t119, t120⟩, A360, H⟩ := H
                          replace H : ((bits_OfLink.f t119).bind fun bt121 => ((stratalaw01_num.f t120).bind fun t124 => (if t124 = 0 then ((stratalaw01_num.f bt121.2.2).bind fun t125 => (if t125 = 0 then (if bt121.1 = a2 then (some (bt121.2.1 == a3)) else (some false)) else (some false))) else (some false)))) = some r := H
                          have A36 := Aside0.mk A360
                          clear A360
                          replace H := Option.bind_eq_some_iff.mp H
                          obtain ⟨⟨t121, t122, t123⟩, A370, H⟩ := H
                          replace H : ((stratalaw01_num.f t120).bind fun t124 => (if t124 = 0 then ((stratalaw01_num.f t123).bind fun t125 => (if t125 = 0 then (if t121 = a2 then (some (t122 == a3)) else (some false)) else (some false))) else (some false))) = some r := H
                          have A37 := Aside0.mk A370
                          clear A370
                          replace H := Option.bind_eq_some_iff.mp H
                          obtain ⟨t124, A380, H⟩ := H
                          replace H : (if t124 = 0 then ((stratalaw01_num.f t123).bind fun t125 => (if t125 = 0 then (if t121 = a2 then (some (t122 == a3)) else (some false)) else (some false))) else (some false)) = some r := H
                          have A38 := Aside0.mk A380
                          clear A380
                          by_cases c39 : t124 = 0
                          · rw [if_pos c39] at H
                            have c39b0 : (t124 == 0) = true := beq_iff_eq.mpr c39
                            have c39b1 : (t124 != 0) = false := bne_eq_false_iff_eq.mpr c39
                            clear c39
                            replace H := Option.bind_eq_some_iff.mp H
                            obtain ⟨t125, A400, H⟩ := H
                            replace H : (if t125 = 0 then (if t121 = a2 then (some (t122 == a3)) else (some false)) else (some false)) = some r := H
                            have A40 := Aside0.mk A400
                            clear A400
                            by_cases c41 : t125 = 0
                            · rw [if_pos c41] at H
                              have c41b0 : (t125 == 0) = true := beq_iff_eq.mpr c41
                              have c41b1 : (t125 != 0) = false := bne_eq_false_iff_eq.mpr c41
                              clear c41
                              by_cases c42 : t121 = a2
                              · rw [if_pos c42] at H
                                have c42b0 : (t121 == a2) = true := beq_iff_eq.mpr c42
                                have c42b1 : (t121 != a2) = false := bne_eq_false_iff_eq.mpr c42
                                clear c42
                                obtain rfl := Option.some.inj H
                                go_wp2_with (first | ((with_reducible refine gate_callee (f := 33) rfl ?_); refine goesL_ (some 144) rfl rfl Try.func33 (by kernel_rfl) rfl #[.int .i64 a2, .bool a3] rfl (by (try simp only [List.map_toArray, List.map_cons, List.map_nil]); first | done | rfl | (simp only [List.length_drop, List.length_take]; rfl)) ?_; (with_reducible refine (bits_Link.calls kj32 a2 a3 t119 t120 _ A36.out).mono ?_); rintro e w' ⟨rfl, ⟨nd, rfl⟩⟩; refine ⟨_, rfl, ?_⟩) | ((with_reducible refine gate_callee (f := 35) rfl ?_); refine goesL_ (some 149) rfl rfl Try.func35 (by kernel_rfl) rfl #[.int .u64 t119] rfl (by (try simp only [List.map_toArray, List.map_cons, List.map_nil]); first | done | rfl | (simp only [List.length_drop, List.length_take]; rfl)) ?_; (with_reducible refine (bits_OfLink.calls t119 t121 t122 t123 _ A37.out).mono ?_); rintro e w' ⟨rfl, ⟨nd, rfl⟩⟩; refine ⟨_, rfl, ?_⟩) | ((with_reducible refine gate_callee (f := 13) rfl ?_); refine goesL_ (some 154) rfl rfl Try.func13 (by kernel_rfl) rfl #[.int .i64 t120] rfl (by (try simp only [List.map_toArray, List.map_cons, List.map_nil]); first | done | rfl | (simp only [List.length_drop, List.length_take]; rfl)) ?_; (with_reducible refine (stratalaw01_num.calls t120 t124 _ A38.out).mono ?_); rintro e w' ⟨rfl, ⟨nd, rfl⟩⟩; refine ⟨_, rfl, ?_⟩) | (go_at_call 13; (with_reducible refine (stratalaw01_num.calls t123 t125 _ A40.out).mono ?_); rintro e w' ⟨rfl, ⟨nd, rfl⟩⟩))
                                go_ret
                                exact ⟨by first | rfl | (simp; done) | (simp [*]; done), by repeat (first | exact Drawn0.refl _ | apply Drawn0.step)⟩
                              · rw [if_neg c42] at H
                                have c42b0 : (t121 == a2) = false := beq_eq_false_iff_ne.mpr c42
                                have c42b1 : (t121 != a2) = true := bne_iff_ne.mpr c42
                                obtain rfl := Option.some.inj H
                                go_wp2_with (first | ((with_reducible refine gate_callee (f := 33) rfl ?_); refine goesL_ (some 144) rfl rfl Try.func33 (by kernel_rfl) rfl #[.int .i64 a2, .bool a3] rfl (by (try simp only [List.map_toArray, List.map_cons, List.map_nil]); first | done | rfl | (simp only [List.length_drop, List.length_take]; rfl)) ?_; (with_reducible refine (bits_Link.calls kj32 a2 a3 t119 t120 _ A36.out).mono ?_); rintro e w' ⟨rfl, ⟨nd, rfl⟩⟩; refine ⟨_, rfl, ?_⟩) | ((with_reducible refine gate_callee (f := 35) rfl ?_); refine goesL_ (some 149) rfl rfl Try.func35 (by kernel_rfl) rfl #[.int .u64 t119] rfl (by (try simp only [List.map_toArray, List.map_cons, List.map_nil]); first | done | rfl | (simp only [List.length_drop, List.length_take]; rfl)) ?_; (with_reducible refine (bits_OfLink.calls t119 t121 t122 t123 _ A37.out).mono ?_); rintro e w' ⟨rfl, ⟨nd, rfl⟩⟩; refine ⟨_, rfl, ?_⟩) | ((with_reducible refine gate_callee (f := 13) rfl ?_); refine goesL_ (some 154) rfl rfl Try.func13 (by kernel_rfl) rfl #[.int .i64 t120] rfl (by (try simp only [List.map_toArray, List.map_cons, List.map_nil]); first | done | rfl | (simp only [List.length_drop, List.length_take]; rfl)) ?_; (with_reducible refine (stratalaw01_num.calls t120 t124 _ A38.out).mono ?_); rintro e w' ⟨rfl, ⟨nd, rfl⟩⟩; refine ⟨_, rfl, ?_⟩) | (go_at_call 13; (with_reducible refine (stratalaw01_num.calls t123 t125 _ A40.out).mono ?_); rintro e w' ⟨rfl, ⟨nd, rfl⟩⟩))
                                go_ret
                                exact ⟨by first | rfl | (simp; done) | (simp [*]; done), by repeat (first | exact Drawn0.refl _ | apply Drawn0.step)⟩
                            · rw [if_neg c41] at H
                              have c41b0 : (t125 == 0) = false := beq_eq_false_iff_ne.mpr c41
                              have c41b1 : (t125 != 0) = true := bne_iff_ne.mpr c41
                              obtain rfl := Option.some.inj H
                              go_wp2_with (first | ((with_reducible refine gate_callee (f := 33) rfl ?_); refine goesL_ (some 144) rfl rfl Try.func33 (by kernel_rfl) rfl #[.int .i64 a2, .bool a3] rfl (by (try simp only [List.map_toArray, List.map_cons, List.map_nil]); first | done | rfl | (simp only [List.length_drop, List.length_take]; rfl)) ?_; (with_reducible refine (bits_Link.calls kj32 a2 a3 t119 t120 _ A36.out).mono ?_); rintro e w' ⟨rfl, ⟨nd, rfl⟩⟩; refine ⟨_, rfl, ?_⟩) | ((with_reducible refine gate_callee (f := 35) rfl ?_); refine goesL_ (some 149) rfl rfl Try.func35 (by kernel_rfl) rfl #[.int .u64 t119] rfl (by (try simp only [List.map_toArray, List.map_cons, List.map_nil]); first | done | rfl | (simp only [List.length_drop, List.length_take]; rfl)) ?_; (with_reducible refine (bits_OfLink.calls t119 t121 t122 t123 _ A37.out).mono ?_); rintro e w' ⟨rfl, ⟨nd, rfl⟩⟩; refine ⟨_, rfl, ?_⟩) | ((with_reducible refine gate_callee (f := 13) rfl ?_); refine goesL_ (some 154) rfl rfl Try.func13 (by kernel_rfl) rfl #[.int .i64 t120] rfl (by (try simp only [List.map_toArray, List.map_cons, List.map_nil]); first | done | rfl | (simp only [List.length_drop, List.length_take]; rfl)) ?_; (with_reducible refine (stratalaw01_num.calls t120 t124 _ A38.out).mono ?_); rintro e w' ⟨rfl, ⟨nd, rfl⟩⟩; refine ⟨_, rfl, ?_⟩) | (go_at_call 13; (with_reducible refine (stratalaw01_num.calls t123 t125 _ A40.out).mono ?_); rintro e w' ⟨rfl, ⟨nd, rfl⟩⟩))
                              go_ret
                              exact ⟨by first | rfl | (simp; done) | (simp [*]; done), by repeat (first | exact Drawn0.refl _ | apply Drawn0.step)⟩
                          · rw [if_neg c39] at H
                            have c39b0 : (t124 == 0) = false := beq_eq_false_iff_ne.mpr c39
                            have c39b1 : (t124 != 0) = true := bne_iff_ne.mpr c39
                            obtain rfl := Option.some.inj H
                            go_wp2_with (first | ((with_reducible refine gate_callee (f := 33) rfl ?_); refine goesL_ (some 144) rfl rfl Try.func33 (by kernel_rfl) rfl #[.int .i64 a2, .bool a3] rfl (by (try simp only [List.map_toArray, List.map_cons, List.map_nil]); first | done | rfl | (simp only [List.length_drop, List.length_take]; rfl)) ?_; (with_reducible refine (bits_Link.calls kj32 a2 a3 t119 t120 _ A36.out).mono ?_); rintro e w' ⟨rfl, ⟨nd, rfl⟩⟩; refine ⟨_, rfl, ?_⟩) | ((with_reducible refine gate_callee (f := 35) rfl ?_); refine goesL_ (some 149) rfl rfl Try.func35 (by kernel_rfl) rfl #[.int .u64 t119] rfl (by (try simp only [List.map_toArray, List.map_cons, List.map_nil]); first | done | rfl | (simp only [List.length_drop, List.length_take]; rfl)) ?_; (with_reducible refine (bits_OfLink.calls t119 t121 t122 t123 _ A37.out).mono ?_); rintro e w' ⟨rfl, ⟨nd, rfl⟩⟩; refine ⟨_, rfl, ?_⟩) | ((with_reducible refine gate_callee (f := 13) rfl ?_); refine goesL_ (some 154) rfl rfl Try.func13 (by kernel_rfl) rfl #[.int .i64 t120] rfl (by (try simp only [List.map_toArray, List.map_cons, List.map_nil]); first | done | rfl | (simp only [List.length_drop, List.length_take]; rfl)) ?_; (with_reducible refine (stratalaw01_num.calls t120 t124 _ A38.out).mono ?_); rintro e w' ⟨rfl, ⟨nd, rfl⟩⟩; refine ⟨_, rfl, ?_⟩))
                            go_ret
                            exact ⟨by first | rfl | (simp; done) | (simp [*]; done), by repeat (first | exact Drawn0.refl _ | apply Drawn0.step)⟩

/-- THE ONE PURE STATEMENT of stratalaw01_BitsApart: yours. -/
def stratalaw01_BitsApart.Pure : Prop := ∀ (a0 : Int) (a1 : Int) (a2 : Int) (a3 : Bool), (Lit.int .u64 a0).wf = true → (Lit.int .u64 a1).wf = true → (Lit.int .i64 a2).wf = true → ∃ k, stratalaw01_BitsApart.f k a0 a1 a2 a3 = some true
theorem stratalaw01_BitsApart.walk (P : stratalaw01_BitsApart.Pure) (a0 : Int) (a1 : Int) (a2 : Int) (a3 : Bool) (w : World) (w0 : (Lit.int .u64 a0).wf = true) (w1 : (Lit.int .u64 a1).wf = true) (w2 : (Lit.int .i64 a2).wf = true) :
    Calls Try.prog 9 #[.int .u64 a0, .int .u64 a1, .int .i64 a2, .bool a3] w fun e w' => e = .returned (.bool true) ∧ Below w.heap.size w w' := by
  obtain ⟨k, h⟩ := P a0 a1 a2 a3 w0 w1 w2
  refine (stratalaw01_BitsApart.calls k a0 a1 a2 a3 true w h).mono ?_
  rintro e w' ⟨rfl, hd⟩
  exact ⟨rfl, hd.below⟩

end Go.Proofs.Ytnanepgcaefhcaa.PBitsApart
