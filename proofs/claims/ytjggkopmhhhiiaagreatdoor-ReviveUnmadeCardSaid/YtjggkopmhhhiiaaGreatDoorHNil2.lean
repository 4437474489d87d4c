/- NewDevice(1), Open and Replay of no device. -/
import Derived.Carry
import Derived.Deep.LoopGhost
import Derived.Deep.RegionHeld3
import Derived.Test.YtjggkopmhhhiiaaGreatDoorHUnm
set_option linter.unusedVariables false
set_option linter.unusedSimpArgs false
namespace Go.Proofs.YtjggkopmhhhiiaaGreatDoor.HNil2
open Go.RowKit Go.Proofs.YtjggkopmhhhiiaaGreatDoor.HUnm Go.Proofs.YtjggkopmhhhiiaaGreatDoorW.PrintWords Go.Proofs.YtjggkopmhhhiiaaGreatDoorW.PrintLast Go.Proofs.YtjggkopmhhhiiaaGreatDoorW.PrintMore Go.Proofs.YtjggkopmhhhiiaaGreatDoor.HCore

set_option maxRecDepth 100000 in
theorem newDevice_one (w : World) : Calls Tryz.prog 25 #[.int .i64 1] w fun e w' => e = .returned (.tuple #[.pointer (some ⟨w.heap.size + 1 + 1, 0, none⟩), .int .i64 0]) ∧ Below w.heap.size w w' := by
  have hmm := @run_makeMap Tryz.prog
  go_enter Tryz.func25, Tryz.ntmps25
  go_wp2
  go_ret2
  exact ⟨rfl, by repeat (first | with_reducible exact Below.refl _ _ | with_reducible apply below_alloc)⟩
set_option maxRecDepth 100000 in
theorem missing_nil (w : World) : Calls Tryz.prog 52 #[.pointer none] w fun e w' => e = .returned (.bool true) ∧ w' = w := by
  go_enter Tryz.func52, Tryz.ntmps52
  go_wp2
  go_ret
  exact ⟨rfl, rfl⟩
set_option maxRecDepth 100000 in
theorem list_nil (w : World) : Calls Tryz.prog 28 #[.pointer none] w fun e w' => e = .returned (.slice none 0 0) ∧ w' = w := by
  go_enter Tryz.func28, Tryz.ntmps28
  go_wp2_with (first
    | (go_at_call 52; refine (missing_nil _).mono ?_; rintro e w1 ⟨rfl, rfl⟩))
  go_ret
  exact ⟨rfl, rfl⟩
theorem res_tct {fn : Func} {p q r : Tmp} {ty : TypeId} (h : fn.results = #[.tmp p, .cell q ty, .tmp r]) (tmps : Array Value) (P : Program) (w : World) :
    (results fn tmps).run P w = ((asAddr (tmps.getD q undef)).run P w).andThen fun a w₁ => ((loadVar ty a).run P w₁).andThen fun v w₂ => .ok (.tuple #[tmps.getD p undef, v, tmps.getD r undef]) w₂ := by
  simp only [results, h]
  simp [Sem.run_bind, Result.andThen]
theorem res_ttc {fn : Func} {p q r : Tmp} {ty : TypeId} (h : fn.results = #[.tmp p, .tmp r, .cell q ty]) (tmps : Array Value) (P : Program) (w : World) :
    (results fn tmps).run P w = ((asAddr (tmps.getD q undef)).run P w).andThen fun a w₁ => ((loadVar ty a).run P w₁).andThen fun v w₂ => .ok (.tuple #[tmps.getD p undef, tmps.getD r undef, v]) w₂ := by
  simp only [results, h]
  simp [Sem.run_bind, Result.andThen]
/-- What nothing reads as. -/
abbrev blank : Obj := .cells #[.slice none 0 0, .slice none 0 0, .int .i64 0, .int .i64 0, .int .i64 0, .int .u64 1, .bool false, .slice none 0 0, .slice none 0 0] 149
set_option maxRecDepth 100000 in
theorem read_nil (w : World) : Calls Tryz.prog 81 #[.pointer none] w fun e w' => e = .returned (.pointer (some ⟨w.heap.size, 0, none⟩)) ∧ w' = w.alloc blank := by
  obtain ⟨w1, hw1⟩ : ∃ w1, w1 = w.alloc blank := ⟨_, rfl⟩
  rw [← hw1]
  have HW := Aside0.mk hw1
  clear hw1
  go_enter Tryz.func81, Tryz.ntmps81
  go_wp2_with (first
    | (go_at_call 28; rw [← HW.out]; refine (list_nil _).mono ?_; rintro e w2 ⟨rfl, rfl⟩))
  go_loopg [15] 1 (fun gk v15 wr => v15 = .int .i64 0 ∧ wr = w2)
  case atStart => exact ⟨rfl, rfl⟩
  case round =>
    obtain ⟨rfl, rfl⟩ := hrel
    go_wp2
    go_ret
    exact ⟨rfl, rfl⟩
set_option maxRecDepth 100000 in
theorem open_nil (w : World) (a b d : Int) : Calls Tryz.prog 26 #[.pointer none, .agg #[.int .i64 a, .int .i64 b, .int .u64 d]] w fun e w' => e = .returned (.tuple #[.pointer none, .agg #[.int .i64 0, .int .i64 0, .int .i64 0, .int .u64 0], .int .i64 1]) ∧ Below w.heap.size w w' := by
  go_enter Tryz.func26, Tryz.ntmps26
  go_wp2_with (first
    | (go_at_call 52; refine (missing_nil _).mono ?_; rintro e w1 ⟨rfl, rfl⟩))
  refine bodyPost_ret (v := .tuple #[.pointer none, .agg #[.int .i64 0, .int .i64 0, .int .i64 0, .int .u64 0], .int .i64 1]) ?_ rfl ⟨rfl, ?_⟩
  · rw [res_tct rfl]
    go_simp
  · exact below_alloc (below_alloc (Below.refl _ _) _) _
set_option maxRecDepth 100000 in
theorem replay_nil (w : World) : Calls Tryz.prog 27 #[.pointer none] w fun e w' => e = .returned (.tuple #[.slice none 0 0, .slice none 0 0, .agg #[.int .i64 0, .int .i64 0, .int .i64 0, .int .u64 1]]) ∧ Below w.heap.size w w' := by
  go_enter Tryz.func27, Tryz.ntmps27
  go_wp2_with (first
    | (go_at_call 81; refine (read_nil _).mono ?_; rintro e w1 ⟨rfl, rfl⟩))
  go_region_held3 (fun w' => w'.cell? ⟨w.heap.size + 1, 0, none⟩ = some (.slice none 0 0) ∧ w'.cell? ⟨w.heap.size + 1, 1, none⟩ = some (.slice none 0 0) ∧ w'.cell? ⟨w.heap.size + 1, 2, none⟩ = some (.int .i64 0) ∧ w'.cell? ⟨w.heap.size + 1, 3, none⟩ = some (.int .i64 0) ∧ w'.cell? ⟨w.heap.size + 1, 4, none⟩ = some (.int .i64 0) ∧ w'.cell? ⟨w.heap.size + 1, 5, none⟩ = some (.int .u64 1)) (go_keep) (first | fail)
  go_wp2
  refine bodyPost_ret (v := .tuple #[.slice none 0 0, .slice none 0 0, .agg #[.int .i64 0, .int .i64 0, .int .i64 0, .int .u64 1]]) ?_ rfl ⟨rfl, ?_⟩
  · rw [res_ttc rfl]
    go_simp
  · exact below_drew (below_alloc (below_alloc (Below.refl _ _) _) _)
end Go.Proofs.YtjggkopmhhhiiaaGreatDoor.HNil2
