-- Written by the kit's print.py, called by xprint.py (a helper of this repo); some functions are taken from texts of this seat that were proved by hand.
import Derived.Test.YtdepngppnbobdaaDoorPFrx0
namespace Go.Proofs.YtdepngppnbobdaaDoor.PFr
open Go.RowKit Go.Proofs.YtdepngppnbobdaaDoor.HBase Go.Proofs.YtdepngppnbobdaaDoor.HSum Go.Proofs.YtdepngppnbobdaaDoorW.PrintWords Go.Proofs.YtdepngppnbobdaaDoorW.PrintLast Go.Proofs.YtdepngppnbobdaaDoorW.PrintMore
attribute [local go_sem] max2_int min2_int max_two min_two max_three min_three max_four min_four   -- for this text's walks alone
set_option linter.unusedVariables false
set_option linter.unusedSimpArgs false

/-! ### redo_word64: function 48 -/
def redo_word64.f (a0 : ByteArray) (a1 : Int) : Option (Int) := (bits_ReadFixed64.f a0 a1).bind fun bt121 => (some bt121.1)
set_option maxHeartbeats 8000000 in
set_option maxRecDepth 100000 in
theorem redo_word64.calls (a0 : ByteArray) (a1 : Int) (r : Int) (w : World) (h : redo_word64.f a0 a1 = some r) :
    Calls Tryd.prog 48 #[.string a0, .int .i64 a1] w fun e w' => e = .returned (.int .u64 r) ∧ Drawn0 w w' := by
  have H : ((bits_ReadFixed64.f a0 a1).bind fun bt121 => (some bt121.1)) = some r := h
  clear h
  replace H := Option.bind_eq_some_iff.mp H
  obtain ⟨⟨t121, t122, t123⟩, A30, H⟩ := H
  replace H : (some t121) = some r := H
  have A3 := Aside0.mk A30
  clear A30
  obtain rfl := Option.some.inj H
  go_enter Tryd.func48, Tryd.ntmps48
  go_wp2_with (first | ((with_reducible refine gate_callee (f := 85) rfl ?_); refine goesL_ (some 11) rfl rfl Tryd.func85 (by kernel_rfl) rfl #[.string a0, .int .i64 a1] rfl (by (try simp only [List.map_toArray, List.map_cons, List.map_nil]); first | done | rfl | (simp only [List.length_drop, List.length_take]; rfl)) ?_; (with_reducible refine (bits_ReadFixed64.calls a0 a1 t121 t122 t123 _ A3.out).mono ?_); rintro e w' ⟨rfl, ⟨nd, rfl⟩⟩; refine ⟨_, rfl, ?_⟩))
  go_ret
  exact ⟨by first | rfl | (simp; done) | (simp [*]; done), by repeat (first | exact Drawn0.refl _ | apply Drawn0.step)⟩

/-! ### redo_word32: function 49 -/
def redo_word32.f (a0 : ByteArray) (a1 : Int) : Option (Int) := (bits_ReadFixed32.f a0 a1).bind fun bt124 => (some bt124.1)
set_option maxHeartbeats 8000000 in
set_option maxRecDepth 100000 in
theorem redo_word32.calls (a0 : ByteArray) (a1 : Int) (r : Int) (w : World) (h : redo_word32.f a0 a1 = some r) :
    Calls Tryd.prog 49 #[.string a0, .int .i64 a1] w fun e w' => e = .returned (.int .u32 r) ∧ Drawn0 w w' := by
  have H : ((bits_ReadFixed32.f a0 a1).bind fun bt124 => (some bt124.1)) = some r := h
  clear h
  replace H := Option.bind_eq_some_iff.mp H
  obtain ⟨⟨t124, t125, t126⟩, A30, H⟩ := H
  replace H : (some t124) = some r := H
  have A3 := Aside0.mk A30
  clear A30
  obtain rfl := Option.some.inj H
  go_enter Tryd.func49, Tryd.ntmps49
  go_wp2_with (first | ((with_reducible refine gate_callee (f := 86) rfl ?_); refine goesL_ (some 11) rfl rfl Tryd.func86 (by kernel_rfl) rfl #[.string a0, .int .i64 a1] rfl (by (try simp only [List.map_toArray, List.map_cons, List.map_nil]); first | done | rfl | (simp only [List.length_drop, List.length_take]; rfl)) ?_; (with_reducible refine (bits_ReadFixed32.calls a0 a1 t124 t125 t126 _ A3.out).mono ?_); rintro e w' ⟨rfl, ⟨nd, rfl⟩⟩; refine ⟨_, rfl, ?_⟩))
  go_ret
  exact ⟨by first | rfl | (simp; done) | (simp [*]; done), by repeat (first | exact Drawn0.refl _ | apply Drawn0.step)⟩

end Go.Proofs.YtdepngppnbobdaaDoor.PFr
