/- ReviveUnmade: a device that NewDevice did not make: the law's walk. -/
import Derived.Test.YtjggkopmhhhiiaaGreatDoorHNil2
set_option linter.unusedVariables false
set_option linter.unusedSimpArgs false
namespace Go.Proofs.YtjggkopmhhhiiaaGreatDoor.HRun
open Go.RowKit Go.Proofs.YtjggkopmhhhiiaaGreatDoor.HUnm Go.Proofs.YtjggkopmhhhiiaaGreatDoor.HNil2 Go.Proofs.YtjggkopmhhhiiaaGreatDoorW.PrintWords Go.Proofs.YtjggkopmhhhiiaaGreatDoorW.PrintLast Go.Proofs.YtjggkopmhhhiiaaGreatDoorW.PrintMore Go.Proofs.YtjggkopmhhhiiaaGreatDoor.HCore

/-- A call that answers so, the world as it was. -/
abbrev Same (f : FuncId) (xs : Array Value) (w : World) (r : Value) : Prop := Calls Tryz.prog f xs w fun e w' => e = .returned r ∧ w' = w
theorem num13 (n : Int) (w : World) : Same 51 #[.int .i64 n] w (.int .i64 n) := by
  go_enter Tryz.func51, Tryz.ntmps51
  go_wp2
  go_ret
  exact ⟨rfl, rfl⟩
set_option maxRecDepth 100000 in
theorem missing_same (g : Nat) (w : World) (hc : w.cell? ⟨g, 0, none⟩ = some (.int .i64 0)) : Same 52 #[.pointer (some ⟨g, 0, none⟩)] w (.bool true) := by
  go_enter Tryz.func52, Tryz.ntmps52
  go_wp2
  go_ret
  exact ⟨rfl, rfl⟩
set_option maxRecDepth 100000 in
theorem read_same (g : Nat) (n : ByteArray) (w : World) (hc : w.cell? ⟨g, 0, none⟩ = some (.int .i64 0)) : Same 7 #[.pointer (some ⟨g, 0, none⟩), .string n] w (.tuple #[.string ⟨#[]⟩, .int .i64 1]) := by
  have H := Aside0.mk hc
  clear hc
  go_enter Tryz.func7, Tryz.ntmps7
  go_wp2_with (first
    | (go_at_call 52; refine (missing_same _ _ H.out).mono ?_; rintro e w1 ⟨rfl, rfl⟩))
  go_ret2
  exact ⟨rfl, rfl⟩
set_option maxRecDepth 100000 in
theorem rmissing_same (g : Nat) (w : World) (hc : w.cell? ⟨g, 0, none⟩ = some (.int .i64 0)) : Same 117 #[.pointer (some ⟨g, 0, none⟩)] w (.bool true) := by
  have H := Aside0.mk hc
  clear hc
  go_enter Tryz.func117, Tryz.ntmps117
  go_wp2_with (first
    | (go_at_call 7; refine (read_same _ _ _ H.out).mono ?_; rintro e w1 ⟨rfl, rfl⟩))
  go_ret
  exact ⟨rfl, rfl⟩
set_option maxRecDepth 100000 in
theorem staffed_same (g : Nat) (n : Int) (w : World) (hc : w.cell? ⟨g, 0, none⟩ = some (.int .i64 0)) : Same 106 #[.pointer (some ⟨g, 0, none⟩), .int .i64 n] w (.int .i64 1) := by
  have H := Aside0.mk hc
  clear hc
  go_enter Tryz.func106, Tryz.ntmps106
  go_wp2_with (first
    | (go_at_call 117; refine (rmissing_same _ _ H.out).mono ?_; rintro e w1 ⟨rfl, rfl⟩))
  go_ret
  exact ⟨rfl, rfl⟩
theorem res_ct {fn : Func} {q r : Tmp} {ty : TypeId} (h : fn.results = #[.cell q ty, .tmp r]) (tmps : Array Value) (P : Program) (w : World) :
    (results fn tmps).run P w = ((asAddr (tmps.getD q undef)).run P w).andThen fun a w₁ => ((loadVar ty a).run P w₁).andThen fun v w₂ => .ok (.tuple #[v, tmps.getD r undef]) w₂ := by
  simp only [results, h]
  simp [Sem.run_bind, Result.andThen]
set_option maxRecDepth 100000 in
theorem recover_un (g : Nat) (n : Int) (w : World) (hc : w.cell? ⟨g, 0, none⟩ = some (.int .i64 0)) : Says 47 #[.pointer (some ⟨g, 0, none⟩), .int .i64 n] w (.tuple #[.agg #[.slice none 0 0, .int .u64 0, .int .u64 0, .int .u64 0, .int .i64 0, .int .i64 0], .int .i64 1]) := by
  have H := Aside0.mk hc
  clear hc
  go_enter Tryz.func47, Tryz.ntmps47
  go_wp2_with (first
    | (go_at_call 106; refine (staffed_same _ _ _ (pw_cell_below (below_alloc (Below.refl _ _) _) H.out)).mono ?_; rintro e w1 ⟨rfl, rfl⟩))
  refine bodyPost_ret (v := .tuple #[.agg #[.slice none 0 0, .int .u64 0, .int .u64 0, .int .u64 0, .int .i64 0, .int .i64 0], .int .i64 1]) ?_ rfl ⟨rfl, ?_⟩
  · rw [res_ct rfl]
    go_simp
  · exact below_alloc (Below.refl _ _) _
set_option maxRecDepth 100000 in
theorem asOf_un (g : Nat) (n t : Int) (w : World) (hc : w.cell? ⟨g, 0, none⟩ = some (.int .i64 0)) : Says 48 #[.pointer (some ⟨g, 0, none⟩), .int .i64 n, .int .u64 t] w (.tuple #[.slice none 0 0, .int .i64 1]) := by
  have H := Aside0.mk hc
  clear hc
  go_enter Tryz.func48, Tryz.ntmps48
  go_wp2_with (first
    | (go_at_call 106; refine (staffed_same _ _ _ (pw_cell_below (below_alloc (Below.refl _ _) _) H.out)).mono ?_; rintro e w1 ⟨rfl, rfl⟩))
  go_ret2
  exact ⟨rfl, below_alloc (Below.refl _ _) _⟩
set_option maxRecDepth 100000 in
theorem scrub_un (g : Nat) (n : Int) (w : World) (hc : w.cell? ⟨g, 0, none⟩ = some (.int .i64 0)) : Says 49 #[.pointer (some ⟨g, 0, none⟩), .int .i64 n] w (.tuple #[.slice none 0 0, .int .i64 1]) := by
  have H := Aside0.mk hc
  clear hc
  go_enter Tryz.func49, Tryz.ntmps49
  go_wp2_with (first
    | (go_at_call 106; refine (staffed_same _ _ _ (pw_cell_below (below_alloc (Below.refl _ _) _) H.out)).mono ?_; rintro e w1 ⟨rfl, rfl⟩))
  go_ret2
  exact ⟨rfl, below_alloc (Below.refl _ _) _⟩
set_option maxRecDepth 100000 in
theorem catch_un (g : Nat) (p : Option Addr) (w : World) (hc : w.cell? ⟨g, 0, none⟩ = some (.int .i64 0)) (hp : p ≠ none) : Says 50 #[.pointer p, .pointer (some ⟨g, 0, none⟩)] w (.tuple #[.int .i64 0, .int .i64 1]) := by
  have H := Aside0.mk hc
  obtain ⟨a, rfl⟩ : ∃ a, p = some a := Option.ne_none_iff_exists'.1 hp
  clear hc hp
  go_enter Tryz.func50, Tryz.ntmps50
  go_wp2_with (first
    | (go_at_call 117; refine (rmissing_same _ _ (pw_cell_below (below_alloc (Below.refl _ _) _) H.out)).mono ?_; rintro e w1 ⟨rfl, rfl⟩))
  go_ret2
  exact ⟨rfl, below_alloc (Below.refl _ _) _⟩
set_option maxRecDepth 100000 in
theorem newStandby_any (w : World) : Calls Tryz.prog 46 #[] w fun e w' => e = .returned (.pointer (some ⟨w.heap.size + 1, 0, none⟩)) ∧ Below w.heap.size w w' := by
  have hmm := @run_makeMap Tryz.prog
  go_enter Tryz.func46, Tryz.ntmps46
  go_wp2
  go_ret
  exact ⟨rfl, below_alloc (below_alloc (Below.refl _ _) _) _⟩
theorem cell_new (w : World) (cs : Array Value) (t : TypeId) (i : Nat) (v : Value) (h : cs[i]? = some v) : (w.alloc (.cells cs t)).cell? ⟨w.heap.size, i, none⟩ = some v := (blk_cell (heap_alloc_new w (.cells cs t)) i).trans h
/-- What stands while the law asks. -/
structure Sr (w : World) (g : Nat) (W : World) : Prop where
  bel : Below w.heap.size w W
  d : W.cell? ⟨g, 0, none⟩ = some (.int .i64 0)
theorem Sr.below {w W W' : World} {g : Nat} (h : Sr w g W) (hb : Below W.heap.size W W') : Sr w g W' := ⟨below_step h.bel hb, pw_cell_below hb h.d⟩
theorem Sr.alloc {w W : World} {g : Nat} (h : Sr w g W) (o : Obj) : Sr w g (W.alloc o) := h.below (below_alloc (Below.refl _ _) _)
theorem Sr.start (w : World) (cs : Array Value) (t : TypeId) (h : cs[0]? = some (.int .i64 0)) : Sr w w.heap.size (w.alloc (.cells cs t)) := ⟨below_alloc (Below.refl _ _) _, (blk_cell (heap_alloc_new w (.cells cs t)) 0).trans h⟩
set_option maxRecDepth 100000 in
set_option maxHeartbeats 8000000 in
theorem walk (a b : Int) (w : World) : Says 6 #[.int .i64 a, .int .u64 b] w (.bool true) := by
  have HS := Aside0.mk (Sr.start w #[.int .i64 0, .map none, .map none, .slice none 0 0, .int .i64 0, .bool false, .int .i64 0] 32 rfl)
  go_enter Tryz.func6, Tryz.ntmps6
  go_wp2_with (first
    | (go_at_call 46; refine (newStandby_any _).mono ?_; rintro e wn ⟨rfl, hb⟩; have HS := Aside0.mk (HS.out.below hb); clear hb)
    | (go_at_call 47; refine (recover_un _ _ _ HS.out.d).mono ?_; rintro e wn ⟨rfl, hb⟩; have HS := Aside0.mk (HS.out.below hb); clear hb)
    | (go_at_call 48; refine (asOf_un _ _ _ _ (HS.out.alloc _).d).mono ?_; rintro e wn ⟨rfl, hb⟩; have HX := Aside0.mk (pw_cell_below hb (cell_new _ _ _ 0 (.slice none 0 0) rfl)); have HS := Aside0.mk ((HS.out.alloc _).below hb); clear hb)
    | (go_at_call 49; refine (scrub_un _ _ _ HS.out.d).mono ?_; rintro e wn ⟨rfl, hb⟩; have HS := Aside0.mk (HS.out.below hb); have HX := Aside0.mk (pw_cell_below hb HX.out); clear hb)
    | (go_at_call 50; refine (catch_un _ _ _ HS.out.d (by simp)).mono ?_; rintro e wn ⟨rfl, hb⟩; have HS := Aside0.mk (HS.out.below hb); have hx := pw_cell_below hb HX.out; clear hb)
    | (go_at_call 51; refine (num13 _ _).mono ?_; rintro e wn ⟨rfl, rfl⟩))
  go_ret
  exact ⟨rfl, HS.out.bel⟩
end Go.Proofs.YtjggkopmhhhiiaaGreatDoor.HRun
