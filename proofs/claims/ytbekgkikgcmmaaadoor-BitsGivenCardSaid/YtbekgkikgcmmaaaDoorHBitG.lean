/- gather, of layer 1: what a reader gave up with is caught. -/
import Derived.Test.YtbekgkikgcmmaaaDoorHBitV
set_option linter.unusedVariables false
set_option linter.unusedSimpArgs false
namespace Go.Proofs.YtbekgkikgcmmaaaDoor.HBitG
open Go.RowKit Go.Proofs.YtbekgkikgcmmaaaDoor.PBit Go.Proofs.YtbekgkikgcmmaaaDoor.HBase Go.Proofs.YtbekgkikgcmmaaaDoorW.PrintWords Go.Proofs.YtbekgkikgcmmaaaDoorW.PrintLast Go.Proofs.YtbekgkikgcmmaaaDoorW.PrintMore Go.Proofs.YtbekgkikgcmmaaaDoor.HCore Go.Proofs.YtbekgkikgcmmaaaDoor.HBitR Go.Proofs.YtbekgkikgcmmaaaDoor.HBitV

/-- The fault has been laid down. -/
structure Hit (ga ge : Nat) (why : Int) (w w' : World) : Prop where
  os : w'.os = w.os
  tape : w'.tape = w.tape
  output : w'.output = w.output
  size : w.heap.size ≤ w'.heap.size
  block : ∀ k, k < w.heap.size → k ≠ ga → k ≠ ge → w'.heap[k]? = w.heap[k]?
  la : w'.heap[ga]? = some (.cells #[.slice none 0 0] 22 (0, 0))
  lb : w'.heap[ge]? = some (.cells #[.int .i64 why] 24 (0, 0))
theorem Hit.mk' {ga ge : Nat} {why : Int} {w w1 : World} {u v : Value} (hb : Below w.heap.size w w1) (hne : ga ≠ ge) (ha : w1.heap[ga]? = some (.cells #[u] 22 (0, 0))) (he : w1.heap[ge]? = some (.cells #[v] 24 (0, 0))) :
    Hit ga ge why w ((w1.setCell ⟨ga, 0, none⟩ (.slice none 0 0)).setCell ⟨ge, 0, none⟩ (.int .i64 why)).drew :=
  ⟨hb.os, hb.tape, hb.output, by simpa [World.setCell, World.drew] using hb.size, fun k hk h1 h2 => ((Below.heap_setCell _ _ _ _ (by exact h2)).trans (Below.heap_setCell _ _ _ _ (by exact h1))).trans (hb.block k hk),
    blk_far ((blk_set ha 0 _).trans rfl) hne _, (blk_set (blk_far he (Ne.symm hne) _) 0 _).trans rfl⟩
theorem mine_is (why : Int) (w : World) : (Instr.typeAssert (.iface 88 (.agg #[.int .i64 why])) 20 88 true).run Tryd.prog w = .ok (.tuple #[.agg #[.int .i64 why], .bool true]) w := by kernel_rfl
set_option maxRecDepth 100000 in
set_option maxHeartbeats 1000000 in
theorem catch_panicking (ga ge : Nat) (u : Value) (c why : Int) (w : World) (ha : w.heap[ga]? = some (.cells #[u] 22 (0, 0))) (he : w.heap[ge]? = some (.cells #[.int .i64 c] 24 (0, 0))) (hne : ga ≠ ge) (older : List PanicEntry) :
    CallsD Tryd.prog 68 #[.pointer (some ⟨ga, 0, none⟩), .pointer (some ⟨ge, 0, none⟩)] (.panicking ({ v := brk why, recovered := false } :: older)) w fun e u' w' =>
      e = .returned (.tuple #[]) ∧ u' = .panicking ({ v := brk why, recovered := true } :: older) ∧ Hit ga ge why w w' := by
  have HA := Aside0.mk ((heap_alloc_old w (.cells #[.int .i64 why] 88) (blk_lt ha)).trans ha)
  have HE := Aside0.mk ((heap_alloc_old w (.cells #[.int .i64 why] 88) (blk_lt he)).trans he)
  have HN := Aside0.mk hne
  have n3 : w.heap.size ≠ ga := fun h => absurd (blk_lt ha) (by omega)
  have n4 : w.heap.size ≠ ge := fun h => absurd (blk_lt he) (by omega)
  clear ha he hne
  refine callsD_of_wpS Tryd.func68 rfl fun c₀ cs hu => ?_
  apply wpS_seq
  apply wpS_region
  simp [wpOpsS, go_sem, recoverD, hu, Tryd.ntmps68, Exit.thenS, brk]
  have e : (#[Value.pointer (some ⟨ga, 0, none⟩), Value.pointer (some ⟨ge, 0, none⟩)] ++ ((Array.replicate 15 undef).setIfInBounds 3 (Value.iface 88 (Value.agg #[.int .i64 why]))).setIfInBounds 0 (Value.iface 88 (Value.agg #[.int .i64 why]))) = #[.pointer (some ⟨ga, 0, none⟩), .pointer (some ⟨ge, 0, none⟩), .iface 88 (.agg #[.int .i64 why]), undef, undef, .iface 88 (.agg #[.int .i64 why]), undef, undef, undef, undef, undef, undef, undef, undef, undef, undef, undef] := rfl
  rw [e]
  clear e
  refine wpS_of_wp ?_
  have hm := fun w => mine_is why w
  have c0 : _ = some u := (blk_cell HA.out 0).trans rfl
  have c1 : _ = some (Value.int .i64 c) := (blk_cell HE.out 0).trans rfl
  have f0 := blk_frozen HA.out 0
  have f1 := blk_frozen HE.out 0
  have k0 : _ = some (Value.int .i64 why) := (blk_cell (heap_alloc_new w (.cells #[.int .i64 why] 88)) 0).trans rfl
  have n1 := HN.out
  have n2 : ge ≠ ga := fun h => HN.out h.symm
  go_wp2
  clear hm
  go_region
  have HH := Hit.mk' (why := why) (below_alloc (Below.refl w.heap.size w) _) HN.out HA.out HE.out
  go_wp2
  cases c₀
  simp_all [bodyPostS, results, Tryd.results68, brk]
set_option maxRecDepth 100000 in
set_option maxHeartbeats 1000000 in
theorem catch_idle (p q : Addr) (w : World) :
    CallsD Tryd.prog 68 #[.pointer (some p), .pointer (some q)] .returning w fun e u' w' => e = .returned (.tuple #[]) ∧ u' = .returning ∧ w' = w := by
  refine callsD_of_wpS Tryd.func68 rfl fun c₀ cs hu => ?_
  apply wpS_seq
  apply wpS_region
  simp [wpOpsS, go_sem, recoverD, hu, Tryd.ntmps68, Exit.thenS]
  refine wpS_of_wp ?_
  go_wp2
  cases c₀
  simp_all [bodyPostS, results, Tryd.results68]
set_option maxRecDepth 100000 in
set_option maxHeartbeats 2000000 in
/-- What stands behind gather: the values or the fault. -/
theorem gather_key (caps : Array Value) (w : World) (Q : Ending → World → Prop)
    (h : Calls Tryd.prog 36 caps ((w.alloc (.cells #[.slice none 0 0] 22)).alloc (.cells #[.int .i64 0] 24)) Q)
    (hQ : ∀ e w1, Q e w1 → ((∃ A n c, e = .returned (.slice A n c)) ∨ (∃ why, e = gives why)) ∧ w1.heap[w.heap.size]? = some (.cells #[.slice none 0 0] 22 (0, 0)) ∧ w1.heap[w.heap.size + 1]? = some (.cells #[.int .i64 0] 24 (0, 0))) :
    Calls Tryd.prog 35 #[.func (.func 36) #[] caps] w fun e w' => ∃ e0 w1, Q e0 w1 ∧ ((∃ A n c, e0 = .returned (.slice A n c) ∧ e = .returned (.tuple #[.slice A n c, .int .i64 0]) ∧ w' = (w1.setCell ⟨w.heap.size, 0, none⟩ (.slice A n c)).setCell ⟨w.heap.size + 1, 0, none⟩ (.int .i64 0)) ∨ (∃ why, e0 = gives why ∧ e = .returned (.tuple #[.slice none 0 0, .int .i64 why]) ∧ Hit w.heap.size (w.heap.size + 1) why w1 w')) := by
  have HH := Aside0.mk h
  have HQ := Aside0.mk hQ
  clear h hQ
  have hmf : ∀ (fn : Fn) (first cap : Array Value) (w : World), (Instr.makeFunc fn first cap).run Tryd.prog w = .ok (.func fn first cap) w := fun _ _ _ _ => rfl
  go_enter_defers Tryd.func35, Tryd.ntmps35
  go_wp2_with fail
  refine HH.out.mono ?_
  intro e w1 q
  obtain ⟨he, ha, hb⟩ := HQ.out e w1 q
  have QQ := Aside0.mk q
  clear q
  rcases he with ⟨A, n, c, rfl⟩ | ⟨why, rfl⟩
  · have h0 : _ = some (Value.slice none 0 0) := (blk_cell ha 0).trans rfl
    have h1 : _ = some (Value.int .i64 0) := (blk_cell hb 0).trans rfl
    have f0 := blk_frozen ha 0
    have f1 := blk_frozen hb 0
    have n1 : w.heap.size ≠ w.heap.size + 1 := by omega
    have n2 : w.heap.size + 1 ≠ w.heap.size := by omega
    have HA := Aside0.mk ha
    have HB := Aside0.mk hb
    clear ha hb
    go_wp2_with fail
    refine leaves_cons (f := 68) (args := #[.pointer (some ⟨w.heap.size, 0, none⟩), .pointer (some ⟨w.heap.size + 1, 0, none⟩)]) (by simp) (by simp [go_sem]) ?_
    refine (catch_idle ⟨w.heap.size, 0, none⟩ ⟨w.heap.size + 1, 0, none⟩ _).mono ?_
    rintro e u' w'' ⟨rfl, rfl, rfl⟩
    have c1 : ((w1.setCell ⟨w.heap.size, 0, none⟩ (.slice A n c)).setCell ⟨w.heap.size + 1, 0, none⟩ (.int .i64 0)).cell? ⟨w.heap.size + 1, 0, none⟩ = some (.int .i64 0) := (blk_cell ((blk_set (blk_far HB.out n2 _) 0 _).trans rfl) 0).trans rfl
    have c0 : ((w1.setCell ⟨w.heap.size, 0, none⟩ (.slice A n c)).setCell ⟨w.heap.size + 1, 0, none⟩ (.int .i64 0)).cell? ⟨w.heap.size, 0, none⟩ = some (.slice A n c) := (blk_cell (blk_far ((blk_set HA.out 0 _).trans rfl) n1 _) 0).trans rfl
    simp [Leaves, settle, results, Tryd.results35, go_sem, c0, c1]
    exact ⟨_, w1, QQ.out, Or.inl ⟨A, n, c, by simp⟩⟩
  · unfold gives
    refine leaves_cons (f := 68) (args := #[.pointer (some ⟨w.heap.size, 0, none⟩), .pointer (some ⟨w.heap.size + 1, 0, none⟩)]) (by simp) (by simp [go_sem]) ?_
    refine (catch_panicking w.heap.size (w.heap.size + 1) _ _ why _ ha hb (by omega) []).mono ?_
    rintro e u' w'' ⟨rfl, rfl, hh⟩
    have c0 : _ = some (Value.slice none 0 0) := (blk_cell hh.la 0).trans rfl
    have c1 : _ = some (Value.int .i64 why) := (blk_cell hh.lb 0).trans rfl
    have HT := Aside0.mk hh
    clear ha hb hh
    simp [Leaves, settle, results, Tryd.results35, go_sem, c0, c1]
    exact ⟨_, w1, QQ.out, Or.inr ⟨why, rfl, rfl, HT.out⟩⟩
set_option maxRecDepth 100000 in
set_option maxHeartbeats 2000000 in
/-- What stands behind gather: the values or the fault. -/
theorem gather_row (caps : Array Value) (w : World) (Q : Ending → World → Prop)
    (h : Calls Tryd.prog 40 caps ((w.alloc (.cells #[.slice none 0 0] 22)).alloc (.cells #[.int .i64 0] 24)) Q)
    (hQ : ∀ e w1, Q e w1 → ((∃ A n c, e = .returned (.slice A n c)) ∨ (∃ why, e = gives why)) ∧ w1.heap[w.heap.size]? = some (.cells #[.slice none 0 0] 22 (0, 0)) ∧ w1.heap[w.heap.size + 1]? = some (.cells #[.int .i64 0] 24 (0, 0))) :
    Calls Tryd.prog 35 #[.func (.func 40) #[] caps] w fun e w' => ∃ e0 w1, Q e0 w1 ∧ ((∃ A n c, e0 = .returned (.slice A n c) ∧ e = .returned (.tuple #[.slice A n c, .int .i64 0]) ∧ w' = (w1.setCell ⟨w.heap.size, 0, none⟩ (.slice A n c)).setCell ⟨w.heap.size + 1, 0, none⟩ (.int .i64 0)) ∨ (∃ why, e0 = gives why ∧ e = .returned (.tuple #[.slice none 0 0, .int .i64 why]) ∧ Hit w.heap.size (w.heap.size + 1) why w1 w')) := by
  have HH := Aside0.mk h
  have HQ := Aside0.mk hQ
  clear h hQ
  have hmf : ∀ (fn : Fn) (first cap : Array Value) (w : World), (Instr.makeFunc fn first cap).run Tryd.prog w = .ok (.func fn first cap) w := fun _ _ _ _ => rfl
  go_enter_defers Tryd.func35, Tryd.ntmps35
  go_wp2_with fail
  refine HH.out.mono ?_
  intro e w1 q
  obtain ⟨he, ha, hb⟩ := HQ.out e w1 q
  have QQ := Aside0.mk q
  clear q
  rcases he with ⟨A, n, c, rfl⟩ | ⟨why, rfl⟩
  · have h0 : _ = some (Value.slice none 0 0) := (blk_cell ha 0).trans rfl
    have h1 : _ = some (Value.int .i64 0) := (blk_cell hb 0).trans rfl
    have f0 := blk_frozen ha 0
    have f1 := blk_frozen hb 0
    have n1 : w.heap.size ≠ w.heap.size + 1 := by omega
    have n2 : w.heap.size + 1 ≠ w.heap.size := by omega
    have HA := Aside0.mk ha
    have HB := Aside0.mk hb
    clear ha hb
    go_wp2_with fail
    refine leaves_cons (f := 68) (args := #[.pointer (some ⟨w.heap.size, 0, none⟩), .pointer (some ⟨w.heap.size + 1, 0, none⟩)]) (by simp) (by simp [go_sem]) ?_
    refine (catch_idle ⟨w.heap.size, 0, none⟩ ⟨w.heap.size + 1, 0, none⟩ _).mono ?_
    rintro e u' w'' ⟨rfl, rfl, rfl⟩
    have c1 : ((w1.setCell ⟨w.heap.size, 0, none⟩ (.slice A n c)).setCell ⟨w.heap.size + 1, 0, none⟩ (.int .i64 0)).cell? ⟨w.heap.size + 1, 0, none⟩ = some (.int .i64 0) := (blk_cell ((blk_set (blk_far HB.out n2 _) 0 _).trans rfl) 0).trans rfl
    have c0 : ((w1.setCell ⟨w.heap.size, 0, none⟩ (.slice A n c)).setCell ⟨w.heap.size + 1, 0, none⟩ (.int .i64 0)).cell? ⟨w.heap.size, 0, none⟩ = some (.slice A n c) := (blk_cell (blk_far ((blk_set HA.out 0 _).trans rfl) n1 _) 0).trans rfl
    simp [Leaves, settle, results, Tryd.results35, go_sem, c0, c1]
    exact ⟨_, w1, QQ.out, Or.inl ⟨A, n, c, by simp⟩⟩
  · unfold gives
    refine leaves_cons (f := 68) (args := #[.pointer (some ⟨w.heap.size, 0, none⟩), .pointer (some ⟨w.heap.size + 1, 0, none⟩)]) (by simp) (by simp [go_sem]) ?_
    refine (catch_panicking w.heap.size (w.heap.size + 1) _ _ why _ ha hb (by omega) []).mono ?_
    rintro e u' w'' ⟨rfl, rfl, hh⟩
    have c0 : _ = some (Value.slice none 0 0) := (blk_cell hh.la 0).trans rfl
    have c1 : _ = some (Value.int .i64 why) := (blk_cell hh.lb 0).trans rfl
    have HT := Aside0.mk hh
    clear ha hb hh
    simp [Leaves, settle, results, Tryd.results35, go_sem, c0, c1]
    exact ⟨_, w1, QQ.out, Or.inr ⟨why, rfl, rfl, HT.out⟩⟩
end Go.Proofs.YtbekgkikgcmmaaaDoor.HBitG
