/- caught: a reader's giving up (its own panic) becomes false (r2's plain seat; functions by number). -/
import Derived.Test.YtlgagjgfenmfeaaHGive
import Derived.Tactics2
import Derived.Defers
import Derived.Recover
import Derived.Laws.Pointers
import Derived.WalkLawsBesides
set_option linter.unusedVariables false
set_option linter.unusedSimpArgs false
namespace Go.Proofs.Ytlgagjgfenmfeaa.HCaught
open Go.RowKit Go.Proofs.YtlgagjgfenmfeaaW.PrintWords Go.Proofs.YtlgagjgfenmfeaaW.PrintLast Go.Proofs.YtlgagjgfenmfeaaW.PrintMore Go.Proofs.Ytlgagjgfenmfeaa.HCore Go.Proofs.Ytlgagjgfenmfeaa.HGive

theorem mine_is (w : World) : (Instr.typeAssert (.iface 85 (.agg #[])) 20 85 true).run Try.prog w = .ok (.tuple #[.agg #[], .bool true]) w := by kernel_rfl
set_option maxRecDepth 100000 in
theorem catch_panicking (g : Nat) (w : World) (hg : w.heap[g]? = some (.cells #[.bool false] 4 (0, 0))) (older : List PanicEntry) :
    CallsD Try.prog 41 #[.pointer (some ⟨g, 0, none⟩)] (.panicking ({ v := gone, recovered := false } :: older)) w fun e u' w' =>
      e = .returned (.tuple #[]) ∧ u' = .panicking ({ v := gone, recovered := true } :: older) ∧ w' = (w.alloc (.cells #[] 85)).setCell ⟨g, 0, none⟩ (.bool false) := by
  have HG := Aside0.mk ((heap_alloc_old w (.cells #[] 85) (blk_lt hg)).trans hg)
  clear hg
  refine callsD_of_wpS Try.func41 rfl fun c₀ cs hu => ?_
  apply wpS_seq
  apply wpS_region
  simp [wpOpsS, go_sem, recoverD, hu, Try.ntmps41, Exit.thenS, gone]
  have e : (#[Value.pointer (some ⟨g, 0, none⟩)] ++ ((Array.replicate 13 undef).setIfInBounds 3 (Value.iface 85 (Value.agg #[]))).setIfInBounds 0 (Value.iface 85 (Value.agg #[]))) = #[.pointer (some ⟨g, 0, none⟩), .iface 85 (.agg #[]), undef, undef, .iface 85 (.agg #[]), undef, undef, undef, undef, undef, undef, undef, undef, undef] := rfl
  rw [e]
  refine wpS_of_wp ?_
  have hm := fun w => mine_is w
  have hc : _ = some (Value.bool false) := (blk_cell HG.out 0).trans rfl
  have hz := blk_frozen HG.out 0
  clear e
  go_wp2
  cases c₀
  simp_all [bodyPostS, results, Try.results41, gone]
theorem catch_idle (p : Addr) (w : World) :
    CallsD Try.prog 41 #[.pointer (some p)] .returning w fun e u' w' => e = .returned (.tuple #[]) ∧ u' = .returning ∧ w' = w := by
  refine callsD_of_wpS Try.func41 rfl fun c₀ cs hu => ?_
  apply wpS_seq
  apply wpS_region
  simp [wpOpsS, go_sem, recoverD, hu, Try.ntmps41, Exit.thenS]
  have e : (#[Value.pointer (some p)] ++ ((Array.replicate 13 undef).setIfInBounds 3 Value.nilIface).setIfInBounds 0 Value.nilIface) = #[.pointer (some p), .nilIface, undef, undef, .nilIface, undef, undef, undef, undef, undef, undef, undef, undef, undef] := rfl
  rw [e]
  refine wpS_of_wp ?_
  go_wp2
  cases c₀
  simp_all [bodyPostS, results, Try.results41]

set_option maxRecDepth 100000 in
set_option maxHeartbeats 1000000 in
theorem caught_dec (caps : Array Value) (w : World) (Q : Ending → World → Prop)
    (h : Calls Try.prog 29 caps (w.alloc (.cells #[.bool false] 4)) Q)
    (hQ : ∀ e w1, Q e w1 → (e = .returned (.tuple #[]) ∨ e = gives) ∧ w1.heap[w.heap.size]? = some (.cells #[.bool false] 4 (0, 0))) :
    Calls Try.prog 28 #[.func (.func 29) #[] caps] w fun e w' => ∃ e0 w1, Q e0 w1 ∧ ((e0 = .returned (.tuple #[]) ∧ e = .returned (.bool true)) ∨ (e0 = gives ∧ e = .returned (.bool false))) ∧ Turn w.heap.size w1 w' := by
  have HH := Aside0.mk h
  have HQ := Aside0.mk hQ
  clear h hQ
  have hmf : ∀ (fn : Fn) (first cap : Array Value) (w : World), (Instr.makeFunc fn first cap).run Try.prog w = .ok (.func fn first cap) w := fun _ _ _ _ => rfl
  go_enter_defers Try.func28, Try.ntmps28
  go_wp2_with fail
  refine HH.out.mono ?_
  intro e w1 q
  obtain ⟨he, hg⟩ := HQ.out e w1 q
  rcases he with rfl | rfl
  · have h0 : _ = some (Value.bool false) := (blk_cell hg 0).trans rfl
    have hf := blk_frozen hg 0
    have hg' : (w1.setCell ⟨w.heap.size, 0, none⟩ (.bool true)).heap[w.heap.size]? = some (.cells #[.bool true] 4 (0, 0)) := (blk_set hg 0 _).trans rfl
    have c0 : (w1.setCell ⟨w.heap.size, 0, none⟩ (.bool true)).cell? ⟨w.heap.size, 0, none⟩ = some (Value.bool true) := (blk_cell hg' 0).trans rfl
    have HG := Aside0.mk c0
    have QQ := Aside0.mk q
    clear hg' c0 hg q
    go_wp2_with fail
    refine leaves_cons (f := 41) (args := #[.pointer (some ⟨w.heap.size, 0, none⟩)]) (by simp) (by simp [go_sem]) ?_
    refine (catch_idle ⟨w.heap.size, 0, none⟩ _).mono ?_
    rintro e u' w'' ⟨rfl, rfl, rfl⟩
    have c0 := HG.out
    simp [Leaves, settle, results, Try.results28, go_sem, c0]
    exact ⟨_, w1, QQ.out, rfl, Turn.set _ _ _ _⟩
  · have QQ := Aside0.mk q
    unfold gives
    refine leaves_cons (f := 41) (args := #[.pointer (some ⟨w.heap.size, 0, none⟩)]) (by simp) (by simp [go_sem]) ?_
    refine (catch_panicking w.heap.size _ hg []).mono ?_
    rintro e u' w'' ⟨rfl, rfl, rfl⟩
    have hg' : ((w1.alloc (.cells #[] 85)).setCell ⟨w.heap.size, 0, none⟩ (.bool false)).heap[w.heap.size]? = some (.cells #[.bool false] 4 (0, 0)) := (blk_set ((heap_alloc_old _ _ (blk_lt hg)).trans hg) 0 _).trans rfl
    have c0 : _ = some (Value.bool false) := (blk_cell hg' 0).trans rfl
    have HT : Aside0 (Turn w.heap.size w1 ((w1.alloc (.cells #[] 85)).setCell ⟨w.heap.size, 0, none⟩ (.bool false))) := ⟨(Turn.of_below (below_alloc (Below.refl _ _) _)).trans (Turn.set _ _ _ _)⟩
    clear hg hg' q
    simp [Leaves, settle, results, Try.results28, go_sem, c0]
    exact ⟨_, w1, QQ.out, rfl, HT.out⟩

set_option maxRecDepth 100000 in
set_option maxHeartbeats 1000000 in
theorem caught_frm (caps : Array Value) (w : World) (Q : Ending → World → Prop)
    (h : Calls Try.prog 37 caps (w.alloc (.cells #[.bool false] 4)) Q)
    (hQ : ∀ e w1, Q e w1 → (e = .returned (.tuple #[]) ∨ e = gives) ∧ w1.heap[w.heap.size]? = some (.cells #[.bool false] 4 (0, 0))) :
    Calls Try.prog 28 #[.func (.func 37) #[] caps] w fun e w' => ∃ e0 w1, Q e0 w1 ∧ ((e0 = .returned (.tuple #[]) ∧ e = .returned (.bool true)) ∨ (e0 = gives ∧ e = .returned (.bool false))) ∧ Turn w.heap.size w1 w' := by
  have HH := Aside0.mk h
  have HQ := Aside0.mk hQ
  clear h hQ
  have hmf : ∀ (fn : Fn) (first cap : Array Value) (w : World), (Instr.makeFunc fn first cap).run Try.prog w = .ok (.func fn first cap) w := fun _ _ _ _ => rfl
  go_enter_defers Try.func28, Try.ntmps28
  go_wp2_with fail
  refine HH.out.mono ?_
  intro e w1 q
  obtain ⟨he, hg⟩ := HQ.out e w1 q
  rcases he with rfl | rfl
  · have h0 : _ = some (Value.bool false) := (blk_cell hg 0).trans rfl
    have hf := blk_frozen hg 0
    have hg' : (w1.setCell ⟨w.heap.size, 0, none⟩ (.bool true)).heap[w.heap.size]? = some (.cells #[.bool true] 4 (0, 0)) := (blk_set hg 0 _).trans rfl
    have c0 : (w1.setCell ⟨w.heap.size, 0, none⟩ (.bool true)).cell? ⟨w.heap.size, 0, none⟩ = some (Value.bool true) := (blk_cell hg' 0).trans rfl
    have HG := Aside0.mk c0
    have QQ := Aside0.mk q
    clear hg' c0 hg q
    go_wp2_with fail
    refine leaves_cons (f := 41) (args := #[.pointer (some ⟨w.heap.size, 0, none⟩)]) (by simp) (by simp [go_sem]) ?_
    refine (catch_idle ⟨w.heap.size, 0, none⟩ _).mono ?_
    rintro e u' w'' ⟨rfl, rfl, rfl⟩
    have c0 := HG.out
    simp [Leaves, settle, results, Try.results28, go_sem, c0]
    exact ⟨_, w1, QQ.out, rfl, Turn.set _ _ _ _⟩
  · have QQ := Aside0.mk q
    unfold gives
    refine leaves_cons (f := 41) (args := #[.pointer (some ⟨w.heap.size, 0, none⟩)]) (by simp) (by simp [go_sem]) ?_
    refine (catch_panicking w.heap.size _ hg []).mono ?_
    rintro e u' w'' ⟨rfl, rfl, rfl⟩
    have hg' : ((w1.alloc (.cells #[] 85)).setCell ⟨w.heap.size, 0, none⟩ (.bool false)).heap[w.heap.size]? = some (.cells #[.bool false] 4 (0, 0)) := (blk_set ((heap_alloc_old _ _ (blk_lt hg)).trans hg) 0 _).trans rfl
    have c0 : _ = some (Value.bool false) := (blk_cell hg' 0).trans rfl
    have HT : Aside0 (Turn w.heap.size w1 ((w1.alloc (.cells #[] 85)).setCell ⟨w.heap.size, 0, none⟩ (.bool false))) := ⟨(Turn.of_below (below_alloc (Below.refl _ _) _)).trans (Turn.set _ _ _ _)⟩
    clear hg hg' q
    simp [Leaves, settle, results, Try.results28, go_sem, c0]
    exact ⟨_, w1, QQ.out, rfl, HT.out⟩
end Go.Proofs.Ytlgagjgfenmfeaa.HCaught
