/- Every call of a device that is not there, or that NewDevice did not make, and of a log that is not there, or that Open did not make, answers ErrNil and leaves what is older as it was. -/
import Derived.Test.YtjggkopmhhhiiaaGreatDoorHCore
import Derived.Test.YtjggkopmhhhiiaaGreatDoorProg
import Derived.Tactics2
import Derived.Deep.QuietTactic
import Derived.BigQuiet
import Derived.WalkLawsBesides
import Derived.IntWalk
import Derived.Laws.Pointers
set_option linter.unusedVariables false
set_option linter.unusedSimpArgs false
namespace Go.Proofs.YtjggkopmhhhiiaaGreatDoor.HUnm
open Go.RowKit Go.Proofs.YtjggkopmhhhiiaaGreatDoorW.PrintWords Go.Proofs.YtjggkopmhhhiiaaGreatDoorW.PrintLast Go.Proofs.YtjggkopmhhhiiaaGreatDoorW.PrintMore Go.Proofs.YtjggkopmhhhiiaaGreatDoor.HCore

/-- There is no device, or none that was made. -/
def Un (w : World) (p : Option Addr) : Prop := p = none ∨ ∃ g, p = some ⟨g, 0, none⟩ ∧ w.cell? ⟨g, 0, none⟩ = some (.int .i64 0)
theorem Un.below {w w' : World} {p : Option Addr} (h : Un w p) (hb : Below w.heap.size w w') : Un w' p := by
  rcases h with h | ⟨g, h, hc⟩
  · exact .inl h
  · exact .inr ⟨g, h, pw_cell_below hb hc⟩
/-- There is no log, or none that was made. -/
def Ul (w : World) (p : Option Addr) : Prop := p = none ∨ ∃ g, p = some ⟨g, 0, none⟩ ∧ w.cell? ⟨g, 0, none⟩ = some (.pointer none)
theorem Ul.below {w w' : World} {p : Option Addr} (h : Ul w p) (hb : Below w.heap.size w w') : Ul w' p := by
  rcases h with h | ⟨g, h, hc⟩
  · exact .inl h
  · exact .inr ⟨g, h, pw_cell_below hb hc⟩
/-- A call that answers so, and leaves what is older as it was. -/
abbrev Says (f : FuncId) (xs : Array Value) (w : World) (r : Value) : Prop := Calls Tryz.prog f xs w fun e w' => e = .returned r ∧ Below w.heap.size w w'

set_option maxRecDepth 100000 in
theorem missing_un (p : Option Addr) (w : World) (h : Un w p) : Says 52 #[.pointer p] w (.bool true) := by
  rcases h with rfl | ⟨g, rfl, hc⟩
  · go_enter Tryz.func52, Tryz.ntmps52
    go_wp2
    go_ret
    exact ⟨rfl, Below.refl _ _⟩
  · go_enter Tryz.func52, Tryz.ntmps52
    go_wp2
    go_ret
    exact ⟨rfl, Below.refl _ _⟩
set_option maxRecDepth 100000 in
theorem alive_un (p : Option Addr) (w : World) (h : Ul w p) : Says 54 #[.pointer p] w (.int .i64 1) := by
  rcases h with rfl | ⟨g, rfl, hc⟩
  · go_enter Tryz.func54, Tryz.ntmps54
    go_wp2
    go_ret
    exact ⟨rfl, Below.refl _ _⟩
  · go_enter Tryz.func54, Tryz.ntmps54
    go_wp2
    go_ret
    exact ⟨rfl, Below.refl _ _⟩
set_option maxRecDepth 100000 in
theorem changing_un (p : Option Addr) (f : Value) (w : World) (h : Un w p) : Says 67 #[.pointer p, f] w (.int .i64 1) := by
  have H := Aside0.mk h
  clear h
  go_enter Tryz.func67, Tryz.ntmps67
  go_wp2_with (first
    | (go_at_call 52; refine (missing_un _ _ H.out).mono ?_; rintro e w1 ⟨rfl, hb⟩; have HB := Aside0.mk hb; clear hb))
  go_ret
  exact ⟨rfl, HB.out⟩
set_option maxRecDepth 100000 in
theorem read_un (p : Option Addr) (n : ByteArray) (w : World) (h : Un w p) : Says 7 #[.pointer p, .string n] w (.tuple #[.string ⟨#[]⟩, .int .i64 1]) := by
  have H := Aside0.mk h
  clear h
  go_enter Tryz.func7, Tryz.ntmps7
  go_wp2_with (first
    | (go_at_call 52; refine (missing_un _ _ H.out).mono ?_; rintro e w1 ⟨rfl, hb⟩; have HB := Aside0.mk hb; clear hb))
  go_ret2
  exact ⟨rfl, HB.out⟩
set_option maxRecDepth 100000 in
theorem list_un (p : Option Addr)  (w : World) (h : Un w p) : Says 28 #[.pointer p] w (.slice none 0 0) := by
  have H := Aside0.mk h
  clear h
  go_enter Tryz.func28, Tryz.ntmps28
  go_wp2_with (first
    | (go_at_call 52; refine (missing_un _ _ H.out).mono ?_; rintro e w1 ⟨rfl, hb⟩; have HB := Aside0.mk hb; clear hb))
  go_ret
  exact ⟨rfl, HB.out⟩
set_option maxRecDepth 100000 in
theorem room_un (p : Option Addr)  (w : World) (h : Un w p) : Says 29 #[.pointer p] w (.tuple #[.int .i64 0, .int .i64 0]) := by
  have H := Aside0.mk h
  clear h
  go_enter Tryz.func29, Tryz.ntmps29
  go_wp2_with (first
    | (go_at_call 52; refine (missing_un _ _ H.out).mono ?_; rintro e w1 ⟨rfl, hb⟩; have HB := Aside0.mk hb; clear hb))
  go_ret2
  exact ⟨rfl, HB.out⟩
set_option maxRecDepth 100000 in
theorem changes_un (p : Option Addr)  (w : World) (h : Un w p) : Says 30 #[.pointer p] w (.int .i64 0) := by
  have H := Aside0.mk h
  clear h
  go_enter Tryz.func30, Tryz.ntmps30
  go_wp2_with (first
    | (go_at_call 52; refine (missing_un _ _ H.out).mono ?_; rintro e w1 ⟨rfl, hb⟩; have HB := Aside0.mk hb; clear hb))
  go_ret
  exact ⟨rfl, HB.out⟩
set_option maxRecDepth 100000 in
theorem cut_un (p : Option Addr) (n : Int) (w : World) (h : Un w p) : Says 19 #[.pointer p, .int .i64 n] w (.int .i64 1) := by
  have H := Aside0.mk h
  clear h
  go_enter Tryz.func19, Tryz.ntmps19
  go_wp2_with (first
    | (go_at_call 52; refine (missing_un _ _ H.out).mono ?_; rintro e w1 ⟨rfl, hb⟩; have HB := Aside0.mk hb; clear hb))
  go_ret
  exact ⟨rfl, HB.out⟩
set_option maxRecDepth 100000 in
theorem crash_un (p : Option Addr) (n : Int) (A : Option Addr) (m c : Nat) (w : World) (h : Un w p) : Says 20 #[.pointer p, .int .i64 n, .slice A m c] w (.int .i64 1) := by
  have H := Aside0.mk h
  clear h
  go_enter Tryz.func20, Tryz.ntmps20
  go_wp2_with (first
    | (go_at_call 52; refine (missing_un _ _ H.out).mono ?_; rintro e w1 ⟨rfl, hb⟩; have HB := Aside0.mk hb; clear hb))
  go_ret
  exact ⟨rfl, HB.out⟩
set_option maxRecDepth 100000 in
theorem rot_un (p : Option Addr) (n : ByteArray) (i x : Int) (w : World) (h : Un w p) : Says 22 #[.pointer p, .string n, .int .i64 i, .int .u8 x] w (.int .i64 1) := by
  have H := Aside0.mk h
  clear h
  go_enter Tryz.func22, Tryz.ntmps22
  go_wp2_with (first
    | (go_at_call 52; refine (missing_un _ _ H.out).mono ?_; rintro e w1 ⟨rfl, hb⟩; have HB := Aside0.mk hb; clear hb))
  go_ret
  exact ⟨rfl, HB.out⟩
set_option maxRecDepth 100000 in
theorem copy_un (p : Option Addr)  (w : World) (h : Un w p) : Says 31 #[.pointer p] w (.pointer none) := by
  have H := Aside0.mk h
  clear h
  go_enter Tryz.func31, Tryz.ntmps31
  go_wp2_with (first
    | (go_at_call 52; refine (missing_un _ _ H.out).mono ?_; rintro e w1 ⟨rfl, hb⟩; have HB := Aside0.mk hb; clear hb))
  go_ret
  exact ⟨rfl, HB.out⟩
set_option maxRecDepth 100000 in
theorem create_un (p : Option Addr) (n : ByteArray) (w : World) (h : Un w p) : Says 13 #[.pointer p, .string n] w (.int .i64 1) := by
  have H := Aside0.mk h
  clear h
  go_enter Tryz.func13, Tryz.ntmps13
  go_wp2_with (first
    | (go_at_call 67; refine (changing_un p _ _ ?ub).mono ?_; (case ub => exact H.out.below (by (first | with_reducible exact Below.refl _ _ | with_reducible exact below_alloc (Below.refl _ _) _ | with_reducible exact below_alloc (below_alloc (Below.refl _ _) _) _ | with_reducible exact below_alloc (below_alloc (below_alloc (Below.refl _ _) _) _) _))); rintro e w1 ⟨rfl, hb⟩; have HB := Aside0.mk (below_step (w := w) (by (first | with_reducible exact Below.refl _ _ | with_reducible exact below_alloc (Below.refl _ _) _ | with_reducible exact below_alloc (below_alloc (Below.refl _ _) _) _ | with_reducible exact below_alloc (below_alloc (below_alloc (Below.refl _ _) _) _) _)) hb); clear hb))
  go_ret
  exact ⟨rfl, HB.out⟩
set_option maxRecDepth 100000 in
theorem append_un (p : Option Addr) (n s : ByteArray) (w : World) (h : Un w p) : Says 14 #[.pointer p, .string n, .string s] w (.int .i64 1) := by
  have H := Aside0.mk h
  clear h
  go_enter Tryz.func14, Tryz.ntmps14
  go_wp2_with (first
    | (go_at_call 67; refine (changing_un p _ _ ?ub).mono ?_; (case ub => exact H.out.below (by (first | with_reducible exact Below.refl _ _ | with_reducible exact below_alloc (Below.refl _ _) _ | with_reducible exact below_alloc (below_alloc (Below.refl _ _) _) _ | with_reducible exact below_alloc (below_alloc (below_alloc (Below.refl _ _) _) _) _))); rintro e w1 ⟨rfl, hb⟩; have HB := Aside0.mk (below_step (w := w) (by (first | with_reducible exact Below.refl _ _ | with_reducible exact below_alloc (Below.refl _ _) _ | with_reducible exact below_alloc (below_alloc (Below.refl _ _) _) _ | with_reducible exact below_alloc (below_alloc (below_alloc (Below.refl _ _) _) _) _)) hb); clear hb))
  go_ret
  exact ⟨rfl, HB.out⟩
set_option maxRecDepth 100000 in
theorem sync_un (p : Option Addr) (n : ByteArray) (w : World) (h : Un w p) : Says 15 #[.pointer p, .string n] w (.int .i64 1) := by
  have H := Aside0.mk h
  clear h
  go_enter Tryz.func15, Tryz.ntmps15
  go_wp2_with (first
    | (go_at_call 67; refine (changing_un p _ _ ?ub).mono ?_; (case ub => exact H.out.below (by (first | with_reducible exact Below.refl _ _ | with_reducible exact below_alloc (Below.refl _ _) _ | with_reducible exact below_alloc (below_alloc (Below.refl _ _) _) _ | with_reducible exact below_alloc (below_alloc (below_alloc (Below.refl _ _) _) _) _))); rintro e w1 ⟨rfl, hb⟩; have HB := Aside0.mk (below_step (w := w) (by (first | with_reducible exact Below.refl _ _ | with_reducible exact below_alloc (Below.refl _ _) _ | with_reducible exact below_alloc (below_alloc (Below.refl _ _) _) _ | with_reducible exact below_alloc (below_alloc (below_alloc (Below.refl _ _) _) _) _)) hb); clear hb))
  go_ret
  exact ⟨rfl, HB.out⟩
set_option maxRecDepth 100000 in
theorem rename_un (p : Option Addr) (n s : ByteArray) (w : World) (h : Un w p) : Says 16 #[.pointer p, .string n, .string s] w (.int .i64 1) := by
  have H := Aside0.mk h
  clear h
  go_enter Tryz.func16, Tryz.ntmps16
  go_wp2_with (first
    | (go_at_call 67; refine (changing_un p _ _ ?ub).mono ?_; (case ub => exact H.out.below (by (first | with_reducible exact Below.refl _ _ | with_reducible exact below_alloc (Below.refl _ _) _ | with_reducible exact below_alloc (below_alloc (Below.refl _ _) _) _ | with_reducible exact below_alloc (below_alloc (below_alloc (Below.refl _ _) _) _) _))); rintro e w1 ⟨rfl, hb⟩; have HB := Aside0.mk (below_step (w := w) (by (first | with_reducible exact Below.refl _ _ | with_reducible exact below_alloc (Below.refl _ _) _ | with_reducible exact below_alloc (below_alloc (Below.refl _ _) _) _ | with_reducible exact below_alloc (below_alloc (below_alloc (Below.refl _ _) _) _) _)) hb); clear hb))
  go_ret
  exact ⟨rfl, HB.out⟩
set_option maxRecDepth 100000 in
theorem remove_un (p : Option Addr) (n : ByteArray) (w : World) (h : Un w p) : Says 17 #[.pointer p, .string n] w (.int .i64 1) := by
  have H := Aside0.mk h
  clear h
  go_enter Tryz.func17, Tryz.ntmps17
  go_wp2_with (first
    | (go_at_call 67; refine (changing_un p _ _ ?ub).mono ?_; (case ub => exact H.out.below (by (first | with_reducible exact Below.refl _ _ | with_reducible exact below_alloc (Below.refl _ _) _ | with_reducible exact below_alloc (below_alloc (Below.refl _ _) _) _ | with_reducible exact below_alloc (below_alloc (below_alloc (Below.refl _ _) _) _) _))); rintro e w1 ⟨rfl, hb⟩; have HB := Aside0.mk (below_step (w := w) (by (first | with_reducible exact Below.refl _ _ | with_reducible exact below_alloc (Below.refl _ _) _ | with_reducible exact below_alloc (below_alloc (Below.refl _ _) _) _ | with_reducible exact below_alloc (below_alloc (below_alloc (Below.refl _ _) _) _) _)) hb); clear hb))
  go_ret
  exact ⟨rfl, HB.out⟩
set_option maxRecDepth 100000 in
theorem syncDir_un (p : Option Addr)  (w : World) (h : Un w p) : Says 18 #[.pointer p] w (.int .i64 1) := by
  have H := Aside0.mk h
  clear h
  go_enter Tryz.func18, Tryz.ntmps18
  go_wp2_with (first
    | (go_at_call 67; refine (changing_un p _ _ ?ub).mono ?_; (case ub => exact H.out.below (by (first | with_reducible exact Below.refl _ _ | with_reducible exact below_alloc (Below.refl _ _) _ | with_reducible exact below_alloc (below_alloc (Below.refl _ _) _) _ | with_reducible exact below_alloc (below_alloc (below_alloc (Below.refl _ _) _) _) _))); rintro e w1 ⟨rfl, hb⟩; have HB := Aside0.mk (below_step (w := w) (by (first | with_reducible exact Below.refl _ _ | with_reducible exact below_alloc (Below.refl _ _) _ | with_reducible exact below_alloc (below_alloc (Below.refl _ _) _) _ | with_reducible exact below_alloc (below_alloc (below_alloc (Below.refl _ _) _) _) _)) hb); clear hb))
  go_ret
  exact ⟨rfl, HB.out⟩
set_option maxRecDepth 100000 in
theorem lflush_un (p : Option Addr)  (w : World) (h : Ul w p) : Says 11 #[.pointer p] w (.int .i64 1) := by
  have H := Aside0.mk h
  clear h
  go_enter Tryz.func11, Tryz.ntmps11
  go_wp2_with (first
    | (go_at_call 54; refine (alive_un p _ ?ub).mono ?_; (case ub => exact H.out.below (by (first | with_reducible exact Below.refl _ _ | with_reducible exact below_alloc (Below.refl _ _) _ | with_reducible exact below_alloc (below_alloc (Below.refl _ _) _) _ | with_reducible exact below_alloc (below_alloc (below_alloc (Below.refl _ _) _) _) _))); rintro e w1 ⟨rfl, hb⟩; have HB := Aside0.mk (below_step (w := w) (by (first | with_reducible exact Below.refl _ _ | with_reducible exact below_alloc (Below.refl _ _) _ | with_reducible exact below_alloc (below_alloc (Below.refl _ _) _) _ | with_reducible exact below_alloc (below_alloc (below_alloc (Below.refl _ _) _) _) _)) hb); clear hb))
  go_ret
  exact ⟨rfl, HB.out⟩
set_option maxRecDepth 100000 in
theorem lappend_un (p : Option Addr) (t : Int) (A : Option Addr) (n c : Nat) (w : World) (h : Ul w p) : Says 8 #[.pointer p, .agg #[.int .u64 t, .slice A n c]] w (.tuple #[.int .u64 0, .int .i64 1]) := by
  have H := Aside0.mk h
  clear h
  go_enter Tryz.func8, Tryz.ntmps8
  go_wp2_with (first
    | (go_at_call 54; refine (alive_un p _ ?ub).mono ?_; (case ub => exact H.out.below (by (first | with_reducible exact Below.refl _ _ | with_reducible exact below_alloc (Below.refl _ _) _ | with_reducible exact below_alloc (below_alloc (Below.refl _ _) _) _ | with_reducible exact below_alloc (below_alloc (below_alloc (Below.refl _ _) _) _) _))); rintro e w1 ⟨rfl, hb⟩; have HB := Aside0.mk (below_step (w := w) (by (first | with_reducible exact Below.refl _ _ | with_reducible exact below_alloc (Below.refl _ _) _ | with_reducible exact below_alloc (below_alloc (Below.refl _ _) _) _ | with_reducible exact below_alloc (below_alloc (below_alloc (Below.refl _ _) _) _) _)) hb); clear hb))
  go_ret2
  exact ⟨rfl, HB.out⟩
set_option maxRecDepth 100000 in
theorem lsync_un (p : Option Addr)  (w : World) (h : Ul w p) : Says 9 #[.pointer p] w (.tuple #[.slice none 0 0, .int .i64 1]) := by
  have H := Aside0.mk h
  clear h
  go_enter Tryz.func9, Tryz.ntmps9
  go_wp2_with (first
    | (go_at_call 11; refine (lflush_un p _ ?ub).mono ?_; (case ub => exact H.out.below (by (first | with_reducible exact Below.refl _ _ | with_reducible exact below_alloc (Below.refl _ _) _ | with_reducible exact below_alloc (below_alloc (Below.refl _ _) _) _ | with_reducible exact below_alloc (below_alloc (below_alloc (Below.refl _ _) _) _) _))); rintro e w1 ⟨rfl, hb⟩; have HB := Aside0.mk (below_step (w := w) (by (first | with_reducible exact Below.refl _ _ | with_reducible exact below_alloc (Below.refl _ _) _ | with_reducible exact below_alloc (below_alloc (Below.refl _ _) _) _ | with_reducible exact below_alloc (below_alloc (below_alloc (Below.refl _ _) _) _) _)) hb); clear hb))
  go_ret2
  exact ⟨rfl, HB.out⟩
set_option maxRecDepth 100000 in
theorem lmark_un (p : Option Addr) (t : Int) (w : World) (h : Ul w p) : Says 12 #[.pointer p, .int .u64 t] w (.int .i64 1) := by
  have H := Aside0.mk h
  clear h
  go_enter Tryz.func12, Tryz.ntmps12
  go_wp2_with (first
    | (go_at_call 54; refine (alive_un p _ ?ub).mono ?_; (case ub => exact H.out.below (by (first | with_reducible exact Below.refl _ _ | with_reducible exact below_alloc (Below.refl _ _) _ | with_reducible exact below_alloc (below_alloc (Below.refl _ _) _) _ | with_reducible exact below_alloc (below_alloc (below_alloc (Below.refl _ _) _) _) _))); rintro e w1 ⟨rfl, hb⟩; have HB := Aside0.mk (below_step (w := w) (by (first | with_reducible exact Below.refl _ _ | with_reducible exact below_alloc (Below.refl _ _) _ | with_reducible exact below_alloc (below_alloc (Below.refl _ _) _) _ | with_reducible exact below_alloc (below_alloc (below_alloc (Below.refl _ _) _) _) _)) hb); clear hb))
  go_ret
  exact ⟨rfl, HB.out⟩
set_option maxRecDepth 100000 in
theorem ltrim_un (p : Option Addr) (t : Int) (w : World) (h : Ul w p) : Says 10 #[.pointer p, .int .u64 t] w (.tuple #[.int .i64 0, .int .i64 1]) := by
  have H := Aside0.mk h
  clear h
  go_enter Tryz.func10, Tryz.ntmps10
  go_wp2_with (first
    | (go_at_call 54; refine (alive_un p _ ?ub).mono ?_; (case ub => exact H.out.below (by (first | with_reducible exact Below.refl _ _ | with_reducible exact below_alloc (Below.refl _ _) _ | with_reducible exact below_alloc (below_alloc (Below.refl _ _) _) _ | with_reducible exact below_alloc (below_alloc (below_alloc (Below.refl _ _) _) _) _))); rintro e w1 ⟨rfl, hb⟩; have HB := Aside0.mk (below_step (w := w) (by (first | with_reducible exact Below.refl _ _ | with_reducible exact below_alloc (Below.refl _ _) _ | with_reducible exact below_alloc (below_alloc (Below.refl _ _) _) _ | with_reducible exact below_alloc (below_alloc (below_alloc (Below.refl _ _) _) _) _)) hb); clear hb))
  go_ret2
  exact ⟨rfl, HB.out⟩
set_option maxRecDepth 100000 in
theorem lnext_nil (w : World) : Says 79 #[.pointer none] w (.int .u64 0) := by
  go_enter Tryz.func79, Tryz.ntmps79
  go_wp2
  go_ret
  exact ⟨rfl, Below.refl _ _⟩
set_option maxRecDepth 100000 in
theorem ldurable_nil (w : World) : Says 80 #[.pointer none] w (.int .u64 0) := by
  go_enter Tryz.func80, Tryz.ntmps80
  go_wp2
  go_ret
  exact ⟨rfl, Below.refl _ _⟩
end Go.Proofs.YtjggkopmhhhiiaaGreatDoor.HUnm
