/- ImageNames: what is asked of an image, a saver and a device that are not there; an image that is made new: the law's walk. -/
import Derived.Test.YtjggkopmhhhiiaaGreatDoorHNil2
set_option linter.unusedVariables false
set_option linter.unusedSimpArgs false
namespace Go.Proofs.YtjggkopmhhhiiaaGreatDoor.HImn
open Go.RowKit Go.Proofs.YtjggkopmhhhiiaaGreatDoor.HUnm Go.Proofs.YtjggkopmhhhiiaaGreatDoor.HNil2 Go.Proofs.YtjggkopmhhhiiaaGreatDoorW.PrintWords Go.Proofs.YtjggkopmhhhiiaaGreatDoorW.PrintLast Go.Proofs.YtjggkopmhhhiiaaGreatDoorW.PrintMore Go.Proofs.YtjggkopmhhhiiaaGreatDoor.HCore

/-- A call that answers so, the world as it was. -/
abbrev Same (f : FuncId) (xs : Array Value) (w : World) (r : Value) : Prop := Calls Tryz.prog f xs w fun e w' => e = .returned r ∧ w' = w
theorem num12 (n : Int) (w : World) : Same 34 #[.int .i64 n] w (.int .i64 n) := by
  go_enter Tryz.func34, Tryz.ntmps34
  go_wp2
  go_ret
  exact ⟨rfl, rfl⟩
set_option maxRecDepth 100000 in
theorem absorb_nil (A : Option Addr) (n c : Nat) (w : World) : Same 32 #[.pointer none, .slice A n c] w (.tuple #[.int .i64 0, .int .i64 1]) := by
  go_enter Tryz.func32, Tryz.ntmps32
  go_wp2
  go_ret2
  exact ⟨rfl, rfl⟩
set_option maxRecDepth 100000 in
theorem close_nil (t : Int) (w : World) : Same 33 #[.pointer none, .int .u64 t] w (.tuple #[.slice none 0 0, .int .i64 1]) := by
  go_enter Tryz.func33, Tryz.ntmps33
  go_wp2
  go_ret2
  exact ⟨rfl, rfl⟩
set_option maxRecDepth 100000 in
theorem merge_nil (t : Int) (w : World) : Same 35 #[.pointer none, .int .i64 t] w (.int .i64 1) := by
  go_enter Tryz.func35, Tryz.ntmps35
  go_wp2
  go_ret
  exact ⟨rfl, rfl⟩
set_option maxRecDepth 100000 in
theorem upto_nil  (w : World) : Same 36 #[.pointer none] w (.int .u64 0) := by
  go_enter Tryz.func36, Tryz.ntmps36
  go_wp2
  go_ret
  exact ⟨rfl, rfl⟩
set_option maxRecDepth 100000 in
theorem pending_nil  (w : World) : Same 37 #[.pointer none] w (.int .i64 0) := by
  go_enter Tryz.func37, Tryz.ntmps37
  go_wp2
  go_ret
  exact ⟨rfl, rfl⟩
set_option maxRecDepth 100000 in
theorem pairs_nil  (w : World) : Same 38 #[.pointer none] w (.slice none 0 0) := by
  go_enter Tryz.func38, Tryz.ntmps38
  go_wp2
  go_ret
  exact ⟨rfl, rfl⟩
set_option maxRecDepth 100000 in
theorem rows_nil  (w : World) : Same 39 #[.pointer none] w (.slice none 0 0) := by
  go_enter Tryz.func39, Tryz.ntmps39
  go_wp2
  go_ret
  exact ⟨rfl, rfl⟩
set_option maxRecDepth 100000 in
theorem step_nil  (w : World) : Same 44 #[.pointer none] w (.bool true) := by
  go_enter Tryz.func44, Tryz.ntmps44
  go_wp2
  go_ret
  exact ⟨rfl, rfl⟩
set_option maxRecDepth 100000 in
theorem code_nil  (w : World) : Same 45 #[.pointer none] w (.int .i64 1) := by
  go_enter Tryz.func45, Tryz.ntmps45
  go_wp2
  go_ret
  exact ⟨rfl, rfl⟩
set_option maxRecDepth 100000 in
theorem clean_nil  (w : World) : Same 41 #[.pointer none] w (.tuple #[.int .i64 0, .int .i64 1]) := by
  go_enter Tryz.func41, Tryz.ntmps41
  go_wp2
  go_ret2
  exact ⟨rfl, rfl⟩
set_option maxRecDepth 100000 in
theorem files_nil (w : World) : Same 42 #[.pointer none] w (.slice none 0 0) := by
  go_enter Tryz.func42, Tryz.ntmps42
  go_wp2_with (first
    | (go_at_call 28; refine (list_nil _).mono ?_; rintro e w2 ⟨rfl, rfl⟩))
  go_loopg [3, 14] 1 (fun gk v3 v14 wr => v3 = .slice none 0 0 ∧ v14 = .int .i64 0 ∧ wr = w2)
  case atStart => exact ⟨rfl, rfl, rfl⟩
  case round =>
    obtain ⟨rfl, rfl, rfl⟩ := hrel
    go_wp2
    go_ret
    exact ⟨rfl, rfl⟩
set_option maxRecDepth 100000 in
theorem newSaver_nil (A : Option Addr) (n c : Nat) (w : World) : Says 40 #[.pointer none, .slice A n c] w (.tuple #[.pointer none, .int .i64 1]) := by
  go_enter Tryz.func40, Tryz.ntmps40
  go_wp2
  go_ret2
  exact ⟨rfl, below_alloc (Below.refl _ _) _⟩
theorem res_ct {fn : Func} {q r : Tmp} {ty : TypeId} (h : fn.results = #[.cell q ty, .tmp r]) (tmps : Array Value) (P : Program) (w : World) :
    (results fn tmps).run P w = ((asAddr (tmps.getD q undef)).run P w).andThen fun a w₁ => ((loadVar ty a).run P w₁).andThen fun v w₂ => .ok (.tuple #[v, tmps.getD r undef]) w₂ := by
  simp only [results, h]
  simp [Sem.run_bind, Result.andThen]
/-- Nothing was read back. -/
abbrev none_read : Value := .agg #[.int .i64 0, .int .i64 0, .int .u64 0, .slice none 0 0, .slice none 0 0, .slice none 0 0]
set_option maxRecDepth 100000 in
theorem newest_nil (w : World) : Says 101 #[.slice none 0 0] w (.tuple #[none_read, .int .i64 0]) := by
  have hmm := @run_makeMap Tryz.prog
  go_enter Tryz.func101, Tryz.ntmps101
  go_wp2
  go_loopg [5, 20] 1 (fun gk v5 v20 wr => v5 = .slice none 0 0 ∧ v20 = .int .i64 0 ∧ wr = (w.alloc (.cells #[.int .i64 0, .int .i64 0, .int .u64 0, .slice none 0 0, .slice none 0 0, .slice none 0 0] 201)).alloc (.map #[] 0))
  case atStart => exact ⟨rfl, rfl, rfl⟩
  case round =>
    obtain ⟨rfl, rfl, rfl⟩ := hrel
    go_wp2
    refine bodyPost_ret (v := .tuple #[none_read, .int .i64 0]) ?_ rfl ⟨rfl, ?_⟩
    · rw [res_ct rfl]
      go_simp
    · exact below_alloc (below_alloc (Below.refl _ _) _) _
set_option maxRecDepth 100000 in
theorem resume_one (w : World) : Calls Tryz.prog 105 #[.int .i64 1, .slice none 0 0] w fun e w' => (∃ g, e = .returned (.tuple #[.pointer (some ⟨g, 0, none⟩), .int .i64 0])) ∧ Below w.heap.size w w' := by
  have hmm := @run_makeMap Tryz.prog
  go_enter Tryz.func105, Tryz.ntmps105
  go_wp2_with (first
    | (go_at_call 101; refine (newest_nil _).mono ?_; rintro e w1 ⟨rfl, hb⟩; have HB := Aside0.mk hb; clear hb))
  go_loopg [47] 1 (fun gk v47 wr => v47 = .int .i64 0 ∧ Aside0 (Below w.heap.size w wr))
  case atStart => exact ⟨rfl, ⟨by repeat (first | with_reducible exact HB.out | with_reducible apply below_alloc)⟩⟩
  case round =>
    clear HB
    obtain ⟨rfl, HB⟩ := hrel
    go_wp2
    go_loopg [81] 1 (fun gk v81 wr => v81 = .int .i64 0 ∧ Aside0 (Below w.heap.size w wr))
    case atStart => exact ⟨rfl, HB⟩
    case round =>
      clear HB
      obtain ⟨rfl, HB⟩ := hrel
      go_wp2
      go_ret2
      exact ⟨⟨_, rfl⟩, HB.out⟩
set_option maxRecDepth 100000 in
theorem new_one (w : World) : Calls Tryz.prog 43 #[.int .i64 1] w fun e w' => (∃ g, e = .returned (.tuple #[.pointer (some ⟨g, 0, none⟩), .int .i64 0])) ∧ Below w.heap.size w w' := by
  go_enter Tryz.func43, Tryz.ntmps43
  go_wp2_with (first
    | (go_at_call 105; refine (resume_one _).mono ?_; rintro e w1 ⟨⟨g, rfl⟩, hb⟩; have HB := Aside0.mk hb; clear hb))
  go_ret2
  exact ⟨⟨g, rfl⟩, HB.out⟩
set_option maxRecDepth 100000 in
set_option maxHeartbeats 8000000 in
theorem walk (w : World) : Says 5 #[] w (.bool true) := by
  go_enter Tryz.func5, Tryz.ntmps5
  go_wp2_with (first
    | (go_at_call 32; refine (absorb_nil _ _ _ _).mono ?_; rintro e wn ⟨rfl, e2⟩; have HB : Aside0 (Below w.heap.size w wn) := ⟨by rw [e2]; exact below_alloc (Below.refl _ _) _⟩; clear e2)
    | (go_at_call 33; refine (close_nil _ _).mono ?_; rintro e wn ⟨rfl, rfl⟩)
    | (go_at_call 35; refine (merge_nil _ _).mono ?_; rintro e wn ⟨rfl, rfl⟩)
    | (go_at_call 36; refine (upto_nil _).mono ?_; rintro e wn ⟨rfl, rfl⟩)
    | (go_at_call 37; refine (pending_nil _).mono ?_; rintro e wn ⟨rfl, rfl⟩)
    | (go_at_call 38; refine (pairs_nil _).mono ?_; rintro e wn ⟨rfl, rfl⟩)
    | (go_at_call 39; refine (rows_nil _).mono ?_; rintro e wn ⟨rfl, rfl⟩)
    | (go_at_call 34; refine (num12 _ _).mono ?_; rintro e wn ⟨rfl, rfl⟩)
    | (go_at_call 40; refine (newSaver_nil _ _ _ _).mono ?_; rintro e wn ⟨rfl, hb⟩; have HB := Aside0.mk (below_step (below_alloc HB.out _) hb); clear hb)
    | (go_at_call 41; refine (clean_nil _).mono ?_; rintro e wn ⟨rfl, rfl⟩)
    | (go_at_call 42; refine (files_nil _).mono ?_; rintro e wn ⟨rfl, rfl⟩)
    | (go_at_call 43; refine (new_one _).mono ?_; rintro e wn ⟨⟨g, rfl⟩, hb⟩; have HB := Aside0.mk (below_step HB.out hb); clear hb)
    | (go_at_call 44; refine (step_nil _).mono ?_; rintro e wn ⟨rfl, rfl⟩)
    | (go_at_call 45; refine (code_nil _).mono ?_; rintro e wn ⟨rfl, rfl⟩))
  go_ret
  exact ⟨rfl, HB.out⟩
end Go.Proofs.YtjggkopmhhhiiaaGreatDoor.HImn
