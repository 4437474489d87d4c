/- sync.Once, called once and again in one goroutine, with the program's own function: the table of zeros is made once. -/
import Derived.Test.YtnanepgcaefhcaaDoorHComb
import Derived.Tactics
import Derived.Tactics2
import Derived.Defers
import Derived.Laws.Pointers
import Derived.Laws.LoneSync
import Derived.RegionTactic
import Derived.RegionCalls
import Derived.ChangeAlike
import Derived.Laws.NewBlocks
set_option linter.unusedVariables false
set_option linter.unusedSimpArgs false
namespace Go.Proofs.YtnanepgcaefhcaaDoor.HOnce
open Go.RowKit Go.Proofs.YtnanepgcaefhcaaDoorW.PrintWords Go.Proofs.YtnanepgcaefhcaaDoorW.PrintLast Go.Proofs.YtnanepgcaefhcaaDoorW.PrintMore Go.Proofs.YtnanepgcaefhcaaDoor.HCore Go.Proofs.YtnanepgcaefhcaaDoor.HCrc Go.Proofs.YtnanepgcaefhcaaDoor.HMat Go.Proofs.YtnanepgcaefhcaaDoor.HSum Go.Proofs.YtnanepgcaefhcaaDoor.HComb

theorem disable (w : World) : (callFunc 119 #[]).run Tryd.prog w = .ok (.value (.tuple #[])) w := run_call_mark0 Tryd.func119 (by kernel_rfl) (by kernel_rfl) (by kernel_rfl) .disable (by kernel_rfl) w
theorem enable (w : World) : (callFunc 121 #[]).run Tryd.prog w = .ok (.value (.tuple #[])) w := run_call_mark0 Tryd.func121 (by kernel_rfl) (by kernel_rfl) (by kernel_rfl) .enable (by kernel_rfl) w
theorem acquire (a : Addr) (w : World) : (callFunc 122 #[.pointer (some a)]).run Tryd.prog w = .ok (.value (.tuple #[])) w := run_call_marked Tryd.func122 (by kernel_rfl) (by kernel_rfl) (by kernel_rfl) .acquire (by kernel_rfl) a w
theorem releaseMerge (a : Addr) (w : World) : (callFunc 124 #[.pointer (some a)]).run Tryd.prog w = .ok (.value (.tuple #[])) w := run_call_marked Tryd.func124 (by kernel_rfl) (by kernel_rfl) (by kernel_rfl) .releaseMerge (by kernel_rfl) a w

/-- '(*sync/atomic.Bool).Store(true)', entered as a deferred call: the cell holds 1. -/
theorem store_deferred (a : Addr) (x : Value) (u : FrameMode) (w : World) (hc : w.cell? a = some x) (hz : w.frozen? a = false) :
    CallsD Tryd.prog 103 #[.pointer (some a), .bool true] u w fun e u' w' => u' = u ∧ (e = .returned (.tuple #[]) ∧ w' = w.drew.setCell a (.int .u32 1)) := by
  have hc' : w.drew.cell? a = some x := by go_simp
  have hz' : w.drew.frozen? a = false := by go_simp
  have hst := run_call_store (P := Tryd.prog) Tryd.func114 (by kernel_rfl) (by kernel_rfl) (by kernel_rfl) (by kernel_rfl) (k := .u32) (y := 1) hc' hz'
  go_enter_d Tryd.func103, Tryd.ntmps103
  go_wp2
  go_region_calls
  all_goals (go_end0; exact ⟨rfl, rfl⟩)

set_option maxRecDepth 100000 in
/-- '(*sync.Mutex).Unlock', entered as a deferred call, the lock held and nobody waiting: it is free. -/
theorem unlock_deferred (a : Addr) (u : FrameMode) (w : World) (hc : w.cell? a = some (.int .i32 1)) (hz : w.frozen? a = false) :
    CallsD Tryd.prog 102 #[.pointer (some a)] u w fun e u' w' => u' = u ∧ (e = .returned (.tuple #[]) ∧ w' = w.setCell a (.int .i32 0)) := by
  have hd := disable
  have he := enable
  have hr := releaseMerge
  have hadd := run_call_add (P := Tryd.prog) Tryd.func125 (by kernel_rfl) (by kernel_rfl) (by kernel_rfl) .i32 (by kernel_rfl) (y := -1) (s := 0) hc hz (by simp [go_sem]; rfl)
  have hcv := run_convert_to_unsafe (P := Tryd.prog) (src := 153) (dst := 157) Tryd.underlying153 Tryd.underlying157 (by kernel_rfl) hc
  go_enter_d Tryd.func102, Tryd.ntmps102
  go_wp2
  go_end0
  go_wp2
  go_end0
  exact ⟨rfl, rfl⟩

set_option maxRecDepth 100000 in
/-- '(*sync.Mutex).Lock', the lock free. -/
theorem lock_free (a : Addr) (w : World) (hc : w.cell? a = some (.int .i32 0)) (hz : w.frozen? a = false) :
    Calls Tryd.prog 101 #[.pointer (some a)] w fun e w' => e = .returned (.tuple #[]) ∧ w' = w.setCell a (.int .i32 1) := by
  have hd := disable
  have he := enable
  have ha := acquire
  have hcas := run_call_cas_hit (P := Tryd.prog) Tryd.func120 (by kernel_rfl) (by kernel_rfl) (by kernel_rfl) .i32 (by kernel_rfl) (y := 1) hc hz
  have hc' : (w.setCell a (.int .i32 1)).cell? a = some (.int .i32 1) := World.cell?_setCell_same w a _ hc
  have hcv := run_convert_to_unsafe (P := Tryd.prog) (src := 153) (dst := 157) Tryd.underlying153 Tryd.underlying157 (by kernel_rfl) hc'
  go_enter Tryd.func101, Tryd.ntmps101
  go_wp2
  first | go_end0 | (simp only [Exit.inBlock, Exit.then]; refine bodyPost_ret (results_none rfl _ _ _) rfl ?_) | refine bodyPost_ret (results_none rfl _ _ _) rfl ?_
  go_wp2
  go_end0
  exact ⟨rfl, rfl⟩

/-- The function that Do is given: the table of zeros is laid into the variable that it holds. -/
theorem clo_any (g : Nat) (m0 : List Nat) (hm : m0.length = 32) (w : World) (hg : w.heap[g]? = some (.cells (row m0) 83 (0, 0))) :
    Calls Tryd.prog 43 #[.pointer (some ⟨g, 0, none⟩)] w fun e w' => e = .returned (.tuple #[]) ∧ w.grownBy w' (some g) ∧ w'.heap[g]? = some (.cells (row (mat dn8)) 83 (0, 0)) := by
  have HM := Aside0.mk hm
  have HG := Aside0.mk hg
  clear hm hg
  go_enter Tryd.func43, Tryd.ntmps43
  go_wp2_with fail
  refine (zeros_any _).mono ?_
  rintro e w1 ⟨rfl, hb⟩
  have hg1 : w1.heap[g]? = some (.cells (row m0) 83 (0, 0)) := (hb.block g (blk_lt HG.out)).trans HG.out
  have HB := Aside0.mk hb
  have HG1 := Aside0.mk hg1
  clear hb hg1
  go_wp2_with (refine wpList_store_row rfl 83 _ _ rfl g (row (mat dn8)) rfl rfl 83 (row m0) HG1.out (by kernel_rfl) (by rw [row_size, row_size, HM.out, mat_len]) (by kernel_rfl) ?_)
  go_end0
  exact ⟨rfl, ⟨HB.out.os, HB.out.tape, HB.out.output, by rw [setRow_size]; exact HB.out.size, fun i hi hne => (setRow_other _ _ _ _ (fun h => hne (by rw [h]))).trans (HB.out.block i hi)⟩, setRow_heap _ _ _ _ _ _ HG1.out⟩

/-- A Once and a table, in two new blocks. -/
structure St (w0 w : World) (d s : Int) (m : List Nat) : Prop where
  below : Below w0.heap.size w0 w
  once : w.heap[w0.heap.size]? = some (.cells #[.int .u32 d, .int .i32 s, .int .u32 0] 81 (0, 0))
  tab : w.heap[w0.heap.size + 1]? = some (.cells (row m) 83 (0, 0))
theorem St.done {w0 w : World} {d s : Int} {m : List Nat} (h : St w0 w d s m) (x : Int) : St w0 (w.setCell ⟨w0.heap.size, 0, none⟩ (.int .u32 x)) x s m :=
  ⟨h.below.setCell (by simp) _, by have := blk_set h.once 0 (.int .u32 x); simpa using this, blk_far h.tab (by simp) _⟩
theorem St.lock {w0 w : World} {d s : Int} {m : List Nat} (h : St w0 w d s m) (x : Int) : St w0 (w.setCell ⟨w0.heap.size, 1, none⟩ (.int .i32 x)) d x m :=
  ⟨h.below.setCell (by simp) _, by have := blk_set h.once 1 (.int .i32 x); simpa using this, blk_far h.tab (by simp) _⟩
theorem St.drew {w0 w : World} {d s : Int} {m : List Nat} (h : St w0 w d s m) : St w0 w.drew d s m := ⟨below_drew h.below, h.once, h.tab⟩
theorem St.made {w0 w w' : World} {d s : Int} {m m' : List Nat} (h : St w0 w d s m) (hg : w.grownBy w' (some (w0.heap.size + 1))) (ht : w'.heap[w0.heap.size + 1]? = some (.cells (row m') 83 (0, 0))) : St w0 w' d s m' :=
  ⟨pw_below_grown h.below _ h.below.size hg (fun k hk => by cases hk; omega), blk_grown h.once hg (by simp), ht⟩
theorem St.c0 {w0 w : World} {d s : Int} {m : List Nat} (h : St w0 w d s m) : w.cell? ⟨w0.heap.size, 0, none⟩ = some (.int .u32 d) := (blk_cell h.once 0).trans rfl
theorem St.c1 {w0 w : World} {d s : Int} {m : List Nat} (h : St w0 w d s m) : w.cell? ⟨w0.heap.size, 1, none⟩ = some (.int .i32 s) := (blk_cell h.once 1).trans rfl
theorem St.f {w0 w : World} {d s : Int} {m : List Nat} (h : St w0 w d s m) (i : Nat) : w.frozen? ⟨w0.heap.size, i, none⟩ = false := blk_frozen h.once i

set_option maxRecDepth 100000 in
set_option maxHeartbeats 1600000 in
theorem slow_any (w0 w : World) (m0 : List Nat) (hm : m0.length = 32) (h : St w0 w 0 0 m0) :
    Calls Tryd.prog 66 #[.pointer (some ⟨w0.heap.size, 0, none⟩), .func (.func 43) #[] #[.pointer (some ⟨w0.heap.size + 1, 0, none⟩)]] w fun e w' => e = .returned (.tuple #[]) ∧ St w0 w' 1 0 (mat dn8) := by
  have h1 := h.lock 1
  have c1 := h.c1
  have f1 := h.f 1
  generalize hw1 : w.setCell ⟨w0.heap.size, 1, none⟩ (.int .i32 1) = w1 at h1
  have HM := Aside0.mk hm
  have H1 := Aside0.mk h1
  have hl := run_call_load (P := Tryd.prog) Tryd.func100 (by kernel_rfl) (by kernel_rfl) (by kernel_rfl) .u32 (by kernel_rfl) h1.c0
  have hnot : ∀ (x : Bool) (w : World), (Op.unary .not (.bool x)).run Tryd.prog w = .ok (.bool (!x)) w := fun _ _ => rfl
  have HW := Aside0.mk hw1
  clear hw1 h h1 hm
  go_enter_defers Tryd.func66, Tryd.ntmps66
  go_wp2_with (go_at_call 101; refine (lock_free ⟨w0.heap.size, 1, none⟩ _ c1 f1).mono ?_; rintro e w' ⟨rfl, hw'⟩; rw [HW.out] at hw'; subst hw')
  go_wp2_with (first | (go_at_call 65; go_in) | (go_at_call 43; refine (clo_any _ m0 HM.out _ H1.out.tab).mono ?_; rintro e w2 ⟨rfl, hg2, ht2⟩; have H2 := Aside0.mk (H1.out.made hg2 ht2); clear hg2 ht2))
  try go_end0
  try go_wp2
  -- the two deferred calls, the last laid first
  refine leaves_cons (f := 103) (args := #[.pointer (some ⟨w0.heap.size, 0, none⟩), .bool true]) (by simp) (by simp [go_sem]) ?_
  refine (store_deferred ⟨w0.heap.size, 0, none⟩ (.int .u32 0) .returning _ H2.out.c0 (H2.out.f 0)).mono ?_
  rintro e u' w3 ⟨rfl, rfl, hw3⟩
  have H3 := Aside0.mk (H2.out.drew.done 1)
  rw [← hw3] at H3
  clear hw3
  refine leaves_cons (f := 102) (args := #[.pointer (some ⟨w0.heap.size, 1, none⟩)]) (by simp [settle]) (by simp [go_sem]) ?_
  refine (unlock_deferred ⟨w0.heap.size, 1, none⟩ _ _ H3.out.c1 (H3.out.f 1)).mono ?_
  rintro e u' w4 ⟨rfl, rfl, hw4⟩
  have H4 := H3.out.lock 0
  rw [← hw4] at H4
  clear hw4
  simp [Leaves, settle, results, Tryd.results66]
  exact H4
set_option maxRecDepth 100000 in
set_option maxHeartbeats 1600000 in
/-- Do, not yet done. -/
theorem do_first (w0 w : World) (m0 : List Nat) (hm : m0.length = 32) (h : St w0 w 0 0 m0) :
    Calls Tryd.prog 42 #[.pointer (some ⟨w0.heap.size, 0, none⟩), .func (.func 43) #[] #[.pointer (some ⟨w0.heap.size + 1, 0, none⟩)]] w fun e w' => e = .returned (.tuple #[]) ∧ St w0 w' 1 0 (mat dn8) := by
  have H := Aside0.mk h
  have HM := Aside0.mk hm
  have hl := run_call_load (P := Tryd.prog) Tryd.func100 (by kernel_rfl) (by kernel_rfl) (by kernel_rfl) .u32 (by kernel_rfl) h.c0
  have hnot : ∀ (x : Bool) (w : World), (Op.unary .not (.bool x)).run Tryd.prog w = .ok (.bool (!x)) w := fun _ _ => rfl
  clear h hm
  go_enter Tryd.func42, Tryd.ntmps42
  go_wp2_with (first | (go_at_call 66; refine (slow_any w0 _ m0 HM.out H.out).mono ?_; rintro e w' ⟨rfl, H'⟩; have HH := Aside0.mk H'; clear H') | (go_at_call 65; go_in))
  go_end0
  exact ⟨rfl, HH.out⟩
set_option maxHeartbeats 1600000 in
/-- Do, done already. -/
theorem do_done (w0 w : World) (m : List Nat) (fv : Value) (h : St w0 w 1 0 m) :
    Calls Tryd.prog 42 #[.pointer (some ⟨w0.heap.size, 0, none⟩), fv] w fun e w' => e = .returned (.tuple #[]) ∧ w' = w := by
  have hl := run_call_load (P := Tryd.prog) Tryd.func100 (by kernel_rfl) (by kernel_rfl) (by kernel_rfl) .u32 (by kernel_rfl) h.c0
  have hnot : ∀ (x : Bool) (w : World), (Op.unary .not (.bool x)).run Tryd.prog w = .ok (.bool (!x)) w := fun _ _ => rfl
  clear h
  go_enter Tryd.func42, Tryd.ntmps42
  go_wp2
  go_end0
  exact ⟨rfl, rfl⟩
end Go.Proofs.YtnanepgcaefhcaaDoor.HOnce
