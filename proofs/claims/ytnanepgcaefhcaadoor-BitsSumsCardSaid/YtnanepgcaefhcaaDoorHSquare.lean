/- Combine, by the document: its table laid twice over itself; nothing that was there is changed. -/
import Derived.Test.YtnanepgcaefhcaaDoorHComb
import Derived.Test.YtnanepgcaefhcaaDoorWTab
import Derived.Deep.LoopGhost
set_option linter.unusedVariables false
set_option linter.unusedSimpArgs false
namespace Go.Proofs.YtnanepgcaefhcaaDoor.HSquare
open Go.RowKit Go.Proofs.YtnanepgcaefhcaaDoorW.PrintWords Go.Proofs.YtnanepgcaefhcaaDoorW.PrintLast Go.Proofs.YtnanepgcaefhcaaDoorW.PrintMore Go.Proofs.YtnanepgcaefhcaaDoor.HCore Go.Proofs.YtnanepgcaefhcaaDoor.HCrc Go.Proofs.YtnanepgcaefhcaaDoor.HMat Go.Proofs.YtnanepgcaefhcaaDoor.HSum Go.Proofs.YtnanepgcaefhcaaDoor.HComb

/-- A table, its first k rows made. -/
def tpart (f : Nat → Nat) (k : Nat) : List Nat := (List.range 32).map fun i => if i < k then f (2 ^ i) else 0
theorem tpart_len (f : Nat → Nat) (k : Nat) : (tpart f k).length = 32 := by unfold tpart; rw [List.length_map, List.length_range]
theorem tpart_zero (f : Nat → Nat) : tpart f 0 = zp 0 := by unfold tpart zp; apply List.map_congr_left; intro i _; rw [if_neg (by omega), if_neg (by omega)]
theorem tpart_all (f : Nat → Nat) : tpart f 32 = mat f := by unfold tpart mat; apply List.map_congr_left; intro i hi; rw [if_pos (by simpa using hi)]
theorem tpart_step (f : Nat → Nat) (k : Nat) (hk : k < 32) : (tpart f k).set k (f (2 ^ k)) = tpart f (k + 1) := by
  apply List.ext_getElem?
  intro j
  unfold tpart
  rw [List.getElem?_set]
  simp only [List.length_map, List.length_range, List.getElem?_map]
  by_cases h : k = j
  · subst h; rw [if_pos rfl, if_pos hk, List.getElem?_range hk]; simp only [Option.map_some]; rw [if_pos (by omega)]
  · rw [if_neg h]
    by_cases hj : j < 32
    · rw [List.getElem?_range hj]
      simp only [Option.map_some, Option.some.injEq]
      by_cases g : j < k
      · rw [if_pos g, if_pos (by omega)]
      · rw [if_neg g, if_neg (by omega)]
    · rw [List.getElem?_eq_none (by rw [List.length_range]; omega)]
      rfl
/-- The table that came, the result's place and the new table, in three new blocks. -/
structure Sq (w wr : World) (f : Nat → Nat) (m : List Nat) : Prop where
  below : Below w.heap.size w wr
  came : wr.heap[w.heap.size]? = some (.cells (row (mat f)) 82 (0, 0))
  res : wr.heap[w.heap.size + 1]? = some (.cells (row (zp 0)) 82 (0, 0))
  new : wr.heap[w.heap.size + 1 + 1]? = some (.cells (row m) 82 (0, 0))
theorem Sq.start (w : World) (f : Nat → Nat) : Sq w (((w.alloc (.cells (row (mat f)) 82)).alloc (.cells (row (zp 0)) 82)).alloc (.cells (row (zp 0)) 82)) f (zp 0) := by
  have s1 : (w.alloc (.cells (row (mat f)) 82)).heap.size = w.heap.size + 1 := by simp
  have s2 : ((w.alloc (.cells (row (mat f)) 82)).alloc (.cells (row (zp 0)) 82)).heap.size = w.heap.size + 1 + 1 := by simp
  refine ⟨below_alloc (below_alloc (below_alloc (Below.refl _ _) _) _) _, ?_, ?_, ?_⟩
  · rw [heap_alloc_old _ _ (by omega), heap_alloc_old _ _ (by omega)]; exact heap_alloc_new _ _
  · rw [heap_alloc_old _ _ (by omega), ← s1]; exact heap_alloc_new _ _
  · rw [← s2]; exact heap_alloc_new _ _
theorem Sq.set {w wr : World} {f : Nat → Nat} {m : List Nat} (h : Sq w wr f m) (i v : Nat) : Sq w (wr.setCell ⟨w.heap.size + 1 + 1, i, none⟩ (.int .u32 (v : Int))) f (m.set i v) :=
  ⟨h.below.setCell (by simp; omega) _, blk_far h.came (by simp; omega) _, blk_far h.res (by simp) _, by have := blk_set h.new i (.int .u32 (v : Int)); rwa [row_set] at this⟩
theorem Sq.grown {w wr w1 : World} {f : Nat → Nat} {m : List Nat} (h : Sq w wr f m) (hb : Below wr.heap.size wr w1) : Sq w w1 f m :=
  ⟨below_then h.below h.below.size hb, (hb.block _ (blk_lt h.came)).trans h.came, (hb.block _ (blk_lt h.res)).trans h.res, (hb.block _ (blk_lt h.new)).trans h.new⟩
theorem Sq.drew {w wr : World} {f : Nat → Nat} {m : List Nat} (h : Sq w wr f m) : Sq w wr.drew f m := ⟨below_drew h.below, h.came, h.res, h.new⟩
theorem Sq.cell {w wr : World} {f : Nat → Nat} {m : List Nat} (h : Sq w wr f m) (i : Nat) (hi : i < m.length) : wr.cell? ⟨w.heap.size + 1 + 1, i, none⟩ = some (.int .u32 ((m.getD i 0 : Nat) : Int)) := (blk_cell h.new i).trans (row_get m i hi)
theorem Sq.froz {w wr : World} {f : Nat → Nat} {m : List Nat} (h : Sq w wr f m) (i : Nat) : wr.frozen? ⟨w.heap.size + 1 + 1, i, none⟩ = false := blk_frozen h.new i

/-- A whole table is read. -/
theorem load_row {o : Oper} {a : Act} {w : World} {g : Nat} {R : Array Value} {x : Operand} (hg : w.heap[g]? = some (.cells R 82 (0, 0))) (ho : o.op = .load 82 x) (hx : a.eval x = .pointer (some ⟨g, 0, none⟩)) (hR : R.size = 32) :
    (execOp a.eval o).run Tryd.prog w = .ok (.value (.agg R)) w := by
  have hi : (Tryd.prog.info? 82).map (·.size) = some R.size := by rw [hR]; kernel_rfl
  unfold execOp
  simp only [ho, hx, Instr.loadAt, Instr.sureAddr, Sem.run_bind, Sem.run_pure, Result.andThen_ok, run_loadVar_row w g 82 82 R (0, 0) _ hg Tryd.underlying82 rfl hi]
set_option maxRecDepth 100000 in
set_option maxHeartbeats 4000000 in
theorem square_any (f : Nat → Nat) (hf : Lin f) (w : World) :
    Calls Tryd.prog 47 #[.agg (row (mat f))] w fun e w' => e = .returned (.agg (row (mat fun r => f (f r)))) ∧ Below w.heap.size w w' := by
  have HF := Aside0.mk hf
  have HS := Aside0.mk (Sq.start w f)
  clear hf
  go_enter Tryd.func47, Tryd.ntmps47
  go_wp2
  rw [zero_row]
  generalize ((w.alloc _).alloc _).alloc _ = W0 at HS ⊢
  go_loopw [4] (fun v4 wr => ∃ k : Nat, k ≤ 32 ∧ v4 = .int .i64 (k : Int) ∧ Aside0 (Sq w wr f (tpart (fun r => f (f r)) k))) (fun v4 _ => 32 - (intOf v4).toNat)
  case atStart => exact ⟨0, by omega, rfl, ⟨by rw [tpart_zero]; exact HS.out⟩⟩
  case round =>
    obtain ⟨k, hk, rfl, HQ⟩ := hrel
    by_cases hk32 : k < 32
    · have hki : (k : Int) < 32 := by omega
      have hd : decide ((k : Int) < 32) = true := decide_eq_true hki
      have hrow := row_at f k hk32
      rw [mat_at f k hk32] at hrow
      have hx : f (2 ^ k) < 2 ^ 32 := HF.out.lt _ (Nat.pow_lt_pow_right (by decide) hk32)
      obtain ⟨x, hxe⟩ : ∃ x, f (2 ^ k) = x := ⟨_, rfl⟩
      rw [hxe] at hx hrow
      have HX := Aside0.mk hx
      have HV : Aside0 (f x = (fun r => f (f r)) (2 ^ k)) := ⟨by rw [← hxe]⟩
      clear hxe hx
      go_wp2
      refine start_ (n := 8) (S := fun w' => w'.heap[w.heap.size]? = some (.cells (row (mat f)) 82 (0, 0))) (ds := []) #[false, false, false, false, false, false, false, false] (by kernel_rfl) rfl rfl HQ.out.drew.came (fun hHeld => ?_)
      have HQ1 := Aside0.mk HQ.out.drew
      generalize wr.drew = w1 at HQ1 hHeld ⊢
      refine pure_ (i := 0) (N := some 9) (v := ?_) (a' := ?_) #[true, false, false, false, false, false, false, false] rfl rfl (by kernel_rfl) (fun _ _ _ h => h) (Or.inl ⟨by rfl, ?_⟩) ?_ ?_
      rotate_left
      · intro w'
        go_simp
        with_reducible rfl
      rotate_left
      · simp only [Act.put, List.setIfInBounds_toArray, List.set_cons_zero, List.set_cons_succ, i64_w, i32_w]
        rfl
      refine pure_ (i := 2) (N := some 11) (v := ?_) (a' := ?_) #[true, false, true, false, false, false, false, false] rfl rfl (by kernel_rfl) (fun _ _ _ h => h) (Or.inl ⟨by rfl, ?_⟩) ?_ ?_
      rotate_left
      · intro w'
        go_simp
        with_reducible rfl
      rotate_left
      · simp only [Act.put, List.setIfInBounds_toArray, List.set_cons_zero, List.set_cons_succ, i64_w, i32_w]
        rfl
      refine pure_ (i := 3) (N := some 12) (v := ?_) (a' := ?_) #[true, false, true, true, false, false, false, false] rfl rfl (by kernel_rfl) (fun _ _ _ h => h) (Or.inl ⟨by rfl, ?_⟩) ?_ ?_
      rotate_left
      · intro w'
        go_simp
        with_reducible rfl
      rotate_left
      · simp only [Act.put, List.setIfInBounds_toArray, List.set_cons_zero, List.set_cons_succ, i64_w, i32_w]
        rfl
      refine take_ (i := 1) (N := some 10) (v := .agg (row (mat f))) (a' := ?_) #[true, true, true, true, false, false, false, false] rfl rfl (by kernel_rfl) (fun _ _ _ h => h) (Or.inl ⟨by rfl, ?_⟩) hHeld ?_ ?_
      · intro w' s0
        exact load_row (x := .tmp 1) s0 (by rfl) (by rfl) (by rw [row_size, mat_len])
      rotate_left
      · simp only [Act.put, List.setIfInBounds_toArray, List.set_cons_zero, List.set_cons_succ, i64_w, i32_w]
        rfl
      refine take_ (i := 4) (N := some 13) (v := ?_) (a' := ?_) #[true, true, true, true, true, false, false, false] rfl rfl (by kernel_rfl) (fun _ _ _ h => h) (Or.inl ⟨by rfl, ?_⟩) hHeld ?_ ?_
      rotate_left
      · intro w' s0
        have c0 := (blk_cell s0 k).trans hrow
        go_simp
        with_reducible rfl
      rotate_left
      · simp only [Act.put, List.setIfInBounds_toArray, List.set_cons_zero, List.set_cons_succ, i64_w, i32_w]
        rfl
      refine one_ (i := 5) (N := some 14) #[true, true, true, true, true, true, false, false] rfl rfl (by kernel_rfl) (by decide) (fun K hK => ?_)
      refine goes_ Tryd.func46 (by kernel_rfl) rfl #[.agg (row (mat f)), .int .u32 (x : Int)] (by rfl) rfl rfl (by (try simp only [List.map_toArray, List.map_cons, List.map_nil]); first | done | rfl) ?_
      refine (through_any f HF.out x HX.out _).mono ?_
      rintro e w2 ⟨rfl, hb⟩
      refine ⟨_, rfl, ?_⟩
      have HQ2 := Aside0.mk (HQ1.out.grown hb)
      refine hK.out _ _ HQ2.out.came (fun hHeld => ?_)
      clear hK K hb
      refine norm_ (a' := ?_) ?_ ?_
      rotate_left
      · show Act.put _ (some 14) _ = _
        simp only [Act.put, List.setIfInBounds_toArray, List.set_cons_zero, List.set_cons_succ, i64_w, i32_w]
        rfl
      refine pure_ (i := 6) (N := some 15) (v := ?_) (a' := ?_) #[true, true, true, true, true, true, true, false] rfl rfl (by kernel_rfl) (fun _ _ _ h => h) (Or.inl ⟨by rfl, ?_⟩) ?_ ?_
      rotate_left
      · intro w'
        go_simp
        with_reducible rfl
      rotate_left
      · simp only [Act.put, List.setIfInBounds_toArray, List.set_cons_zero, List.set_cons_succ, i64_w, i32_w]
        rfl
      refine one_ (i := 7) (N := none) #[true, true, true, true, true, true, true, true] rfl rfl (by kernel_rfl) (by decide) (fun K hK => ?_)
      have hc := HQ2.out.cell k (by rw [tpart_len]; exact hk32)
      have hf := HQ2.out.froz k
      have HN := Aside0.mk (HQ2.out.set k (f x))
      refine skip_ (w1 := w2.setCell ⟨w.heap.size + 1 + 1, k, none⟩ (.int .u32 ((f x : Nat) : Int))) (by rfl) rfl ?_ ?_
      · generalize (tpart (fun r => f (f r)) k).getD k 0 = y at hc
        generalize f x = z
        go_simp
      refine hK.out _ _ HN.out.came (fun hHeld => ?_)
      clear hK K hc hf
      refine done_ (by kernel_rfl) ?_
      have HN2 : Aside0 (Sq w (w2.setCell ⟨w.heap.size + 1 + 1, k, none⟩ (.int .u32 ((f x : Nat) : Int))) f (tpart (fun r => f (f r)) (k + 1))) := ⟨by rw [← tpart_step (fun r => f (f r)) k hk32, ← HV.out]; exact HN.out⟩
      try go_wp2
      go_roundw
      case rel => exact ⟨k + 1, by omega, by go_num, HN2⟩
      case measure => simp [intOf]; omega
    · obtain rfl : k = 32 := by omega
      have HQ2 := HQ.out
      rw [tpart_all] at HQ2
      have h1 := HQ2.res
      have HS2 := Aside0.mk HQ2.new
      have HB := Aside0.mk HQ2.below
      clear HQ2 HQ
      go_wp2_with (first | (refine wpList_load_row rfl 82 _ rfl _ rfl _ _ _ _ HS2.out Tryd.underlying82 rfl (by kernel_rfl) ?_) | (refine wpList_store_row rfl 82 _ _ rfl _ _ rfl rfl _ _ h1 (by kernel_rfl) (by rw [row_size, row_size, mat_len]; rfl) (by kernel_rfl) ?_))
      refine bodyPost_ret (v := .agg (row (mat fun r => f (f r)))) (results_cell_row (fn := Tryd.f47) rfl _ _ _ _ _ _ _ rfl (setRow_heap _ _ _ _ _ _ h1) Tryd.underlying82 rfl (by kernel_rfl)) rfl ⟨rfl, ?_⟩
      exact below_setRow HB.out (by omega) _
end Go.Proofs.YtnanepgcaefhcaaDoor.HSquare
