/- Combine, by the program: the sum of two texts joined, out of both sums; nothing that was there is changed. -/
import Derived.Test.YtnanepgcaefhcaaDoorHOnce
import Derived.Deep.LoopGhost
set_option linter.unusedVariables false
set_option linter.unusedSimpArgs false
namespace Go.Proofs.YtnanepgcaefhcaaDoor.HCombine
open Go.RowKit Go.Proofs.YtnanepgcaefhcaaDoorW.PrintWords Go.Proofs.YtnanepgcaefhcaaDoorW.PrintLast Go.Proofs.YtnanepgcaefhcaaDoorW.PrintMore Go.Proofs.YtnanepgcaefhcaaDoor.HCore Go.Proofs.YtnanepgcaefhcaaDoor.HCrc Go.Proofs.YtnanepgcaefhcaaDoor.HMat Go.Proofs.YtnanepgcaefhcaaDoor.HSum Go.Proofs.YtnanepgcaefhcaaDoor.HComb Go.Proofs.YtnanepgcaefhcaaDoor.HOnce

theorem mat_one : mat dn8 = mat (zer 1) := mat_congr fun _ => rfl
/-- The table at the head of a round: not made yet (then the step is one), or made. -/
def Head (w0 w : World) (p : Nat) : Prop := (p = 1 ∧ ∃ m0 : List Nat, m0.length = 32 ∧ St w0 w 0 0 m0) ∨ St w0 w 1 0 (mat (zer p))
theorem Head.below {w0 w : World} {p : Nat} (h : Head w0 w p) : Below w0.heap.size w0 w := by
  rcases h with ⟨_, m0, _, h⟩ | h
  · exact h.below
  · exact h.below
theorem do_any (w0 w : World) (p : Nat) (h : Head w0 w p) :
    Calls Tryd.prog 42 #[.pointer (some ⟨w0.heap.size, 0, none⟩), .func (.func 43) #[] #[.pointer (some ⟨w0.heap.size + 1, 0, none⟩)]] w fun e w' => e = .returned (.tuple #[]) ∧ St w0 w' 1 0 (mat (zer p)) := by
  rcases h with ⟨rfl, m0, hm, h⟩ | h
  · rw [← mat_one]
    exact do_first w0 w m0 hm h
  · refine (do_done w0 w _ _ h).mono ?_
    rintro e w' ⟨rfl, rfl⟩
    exact ⟨rfl, h⟩
theorem st_size {w0 w : World} {d s : Int} {m : List Nat} (h : St w0 w d s m) : w0.heap.size + 1 < w.heap.size := blk_lt h.tab
/-- A copy of the table in a new block. -/
structure Was (w0 w : World) (g : Nat) (m m' : List Nat) : Prop where
  st : St w0 w 1 0 m
  far : w0.heap.size + 1 < g
  was : w.heap[g]? = some (.cells (row m') 83 (0, 0))
theorem st_was {w0 w : World} {m m' : List Nat} (h : St w0 w 1 0 m) : Was w0 ((w.alloc (.cells (row (zp 0)) 83)).setRow w.heap.size (row m')) w.heap.size m m' := by
  have hs := st_size h
  refine ⟨⟨below_setRow (below_alloc h.below _) (by omega) _, ?_, ?_⟩, hs, setRow_heap _ _ _ _ _ _ (heap_alloc_new _ _)⟩
  · rw [setRow_other _ _ _ _ (by omega), heap_alloc_old _ _ (by omega)]; exact h.once
  · rw [setRow_other _ _ _ _ (by omega), heap_alloc_old _ _ (by omega)]; exact h.tab
theorem Was.set {w0 w : World} {g : Nat} {m m' : List Nat} (h : Was w0 w g m m') (i v : Nat) : Was w0 (w.setCell ⟨w0.heap.size + 1, i, none⟩ (.int .u32 (v : Int))) g (m.set i v) m' :=
  ⟨⟨h.st.below.setCell (by simp) _, blk_far h.st.once (by simp) _, by have := blk_set h.st.tab i (.int .u32 (v : Int)); rwa [row_set] at this⟩, h.far, blk_far h.was (by have := h.far; simp; omega) _⟩
theorem Was.cell {w0 w : World} {g : Nat} {m m' : List Nat} (h : Was w0 w g m m') (i : Nat) (hi : i < m'.length) : w.cell? ⟨g, i, none⟩ = some (.int .u32 ((m'.getD i 0 : Nat) : Int)) := (blk_cell h.was i).trans (row_get m' i hi)
theorem Was.there {w0 w : World} {g : Nat} {m m' : List Nat} (h : Was w0 w g m m') (i : Nat) (hi : i < m.length) : w.cell? ⟨w0.heap.size + 1, i, none⟩ = some (.int .u32 ((m.getD i 0 : Nat) : Int)) := (blk_cell h.st.tab i).trans (row_get m i hi)
theorem Was.froz {w0 w : World} {g : Nat} {m m' : List Nat} (h : Was w0 w g m m') (i : Nat) : w.frozen? ⟨w0.heap.size + 1, i, none⟩ = false := blk_frozen h.st.tab i

theorem combine_out (a b : Nat) (n : Int) (w : World) (hn : n < 0 ∨ 1048576 < n) :
    Calls Tryd.prog 20 #[.int .u32 (a : Int), .int .u32 (b : Int), .int .i64 n] w fun e w' => e = .returned (.tuple #[.int .u32 0, .int .i64 10]) ∧ Below w.heap.size w w' := by
  rcases hn with hn | hn
  · go_enter Tryd.func20, Tryd.ntmps20
    go_wp2
    go_ret2
    exact ⟨rfl, Below.refl _ _⟩
  · have h0 : decide (n < 0) = false := decide_eq_false (by omega)
    go_enter Tryd.func20, Tryd.ntmps20
    go_wp2
    go_ret2
    exact ⟨rfl, Below.refl _ _⟩

theorem and1_i64 (q : Nat) (hq : q ≤ 1048576) : Go.bits .and .i64 (q : Int) 1 = ((q % 2 : Nat) : Int) := by
  have hb : ∀ x : Nat, x ≤ 1048576 → (BitVec.ofInt 64 (x : Int)).toNat = x := fun x hx => by
    rw [BitVec.ofInt_natCast, BitVec.toNat_ofNat]; exact Nat.mod_eq_of_lt (by omega)
  show IntKind.i64.wrap ((BitVec.ofInt 64 (q : Int) &&& BitVec.ofInt 64 (((1 : Nat) : Int))).toNat : Int) = _
  rw [BitVec.toNat_and, hb q hq, hb 1 (by omega), nat_mask1, i64_w]
  exact w64 (by omega) (by omega)
theorem half_odd (q p A : Nat) (h : q % 2 = 1) : zer (q / 2 * (p + p)) (zer p A) = zer (q * p) A := by
  rw [← zer_add]
  congr 1
  obtain ⟨k, rfl⟩ : ∃ k, q = 2 * k + 1 := ⟨q / 2, by omega⟩
  rw [show (2 * k + 1) / 2 = k by omega, Nat.add_mul, Nat.one_mul, Nat.mul_add, Nat.mul_assoc, Nat.two_mul]
  omega
theorem half_even (q p : Nat) (h : q % 2 = 0) : q / 2 * (p + p) = q * p := by
  obtain ⟨k, rfl⟩ : ∃ k, q = 2 * k := ⟨q / 2, by omega⟩
  rw [show 2 * k / 2 = k by omega, Nat.mul_add, Nat.mul_assoc, Nat.two_mul]

set_option maxRecDepth 100000 in
set_option maxHeartbeats 4000000 in
theorem combine_in (a b n : Nat) (ha : a < 2 ^ 32) (hb : b < 2 ^ 32) (hn : n ≤ 1048576) (w : World) :
    Calls Tryd.prog 20 #[.int .u32 (a : Int), .int .u32 (b : Int), .int .i64 (n : Int)] w fun e w' => e = .returned (.tuple #[.int .u32 (((zer n a) ^^^ b : Nat) : Int), .int .i64 0]) ∧ Below w.heap.size w w' := by
  have hmf : ∀ (fn : Fn) (first cap : Array Value) (w : World), (Instr.makeFunc fn first cap).run Tryd.prog w = .ok (.func fn first cap) w := fun _ _ _ _ => rfl
  have h0 : decide ((n : Int) < 0) = false := decide_eq_false (by omega)
  have h1 : decide (1048576 < (n : Int)) = false := decide_eq_false (by omega)
  have HS := Aside0.mk (show Head w ((w.alloc (.cells #[.int .u32 0, .int .i32 0, .int .u32 0] 81)).alloc (.cells (row (zp 0)) 83)) 1 from Or.inl ⟨rfl, zp 0, zp_len 0, below_alloc (below_alloc (Below.refl _ _) _) _, heap_alloc2_old _ _ _, heap_alloc2_new _ _ _⟩)
  have HA := Aside0.mk ha
  have HB := Aside0.mk hb
  clear ha hb
  go_enter Tryd.func20, Tryd.ntmps20
  go_wp2
  rw [zero_row]
  generalize (w.alloc _).alloc _ = W0 at HS ⊢
  clear h0 h1
  go_loopw [0, 2] (fun v0 v2 wr => ∃ p q A : Nat, q ≤ 1048576 ∧ v2 = .int .i64 (q : Int) ∧ v0 = .int .u32 (A : Int) ∧ Aside0 (A < 2 ^ 32) ∧ Aside0 (zer (q * p) A = zer n a) ∧ Aside0 (Head w wr p)) (fun _ v2 _ => (intOf v2).toNat)
  case atStart => exact ⟨1, n, a, hn, rfl, rfl, HA, ⟨by rw [Nat.mul_one]⟩, HS⟩
  case round =>
    obtain ⟨p, q, A, hq, rfl, rfl, HA, HE, HH⟩ := hrel
    by_cases hq0 : 0 < q
    · have hd : decide (0 < (q : Int)) = true := decide_eq_true (by omega)
      have hbit := and1_i64 q hq
      have HQ : Aside0 (∀ x : Nat, x < 2 ^ 32 → zer p x < 2 ^ 32) := ⟨fun x => zer_lt p⟩
      by_cases hodd : q % 2 = 1
      · rw [hodd] at hbit
        have HE2 := Aside0.mk ((half_odd q p A hodd).trans HE.out)
        have HA2 := Aside0.mk (zer_lt p HA.out)
        clear hodd
        go_wp2_with (first | (go_at_call 42; refine (do_any w _ p HH.out).mono ?_; rintro e w1 ⟨rfl, h1⟩; have H1 := Aside0.mk h1; clear h1) | (go_at_call 45; refine (on_any _ 83 (zer p) (lin_zer p) A HA.out _ H1.out.tab).mono ?_; rintro e w2 ⟨rfl, rfl⟩) | (refine wpList_load_row rfl 83 (.tmp 9) rfl _ rfl _ _ _ _ H1.out.tab Tryd.underlying83 rfl (by kernel_rfl) ?_) | (refine wpList_store_row rfl 83 (.tmp 10) (.tmp 29) rfl _ _ rfl rfl _ _ (heap_alloc_new _ _) (by kernel_rfl) (by rw [row_size, mat_len]; rfl) (by kernel_rfl) ?_))
        rw [zero_row]
        have HW := Aside0.mk (st_was (m' := mat (zer p)) H1.out)
        clear hbit H1 hd HQ
        generalize (w2.alloc _).setRow _ _ = W3 at HW ⊢
        generalize w2.heap.size = g at HW ⊢
        go_loopw [30] (fun v30 wr => ∃ i : Nat, i ≤ 32 ∧ v30 = .int .i64 (i : Int) ∧ Aside0 (Was w wr g (sqr (zer p) i) (mat (zer p)))) (fun v30 _ => 32 - (intOf v30).toNat)
        case atStart => exact ⟨0, by omega, rfl, ⟨by rw [sqr_zero]; exact HW.out⟩⟩
        case round =>
          obtain ⟨i, hi, rfl, HW⟩ := hrel
          by_cases hi32 : i < 32
          · have hc := HW.out.cell i (by rw [mat_len]; exact hi32)
            have ht := HW.out.there i (by rw [sqr_len]; exact hi32)
            have hf := HW.out.froz i
            rw [mat_at _ i hi32] at hc
            have hx : zer p (2 ^ i) < 2 ^ 32 := zer_lt p (Nat.pow_lt_pow_right (by decide) hi32)
            have HN := Aside0.mk (HW.out.set i (zer p (zer p (2 ^ i))))
            rw [sqr_step _ i hi32] at HN
            generalize zer p (2 ^ i) = x at hc hx HN
            generalize (sqr (zer p) i).getD i 0 = y at ht
            have HX := Aside0.mk hx
            have hid : (i : Int) < 32 := by omega
            go_wp2_with (go_at_call 45; refine (on_any g 83 (zer p) (lin_zer p) x HX.out _ HW.out.was).mono ?_; rintro e w4 ⟨rfl, rfl⟩)
            go_roundw
            case rel => exact ⟨i + 1, by omega, by go_num, HN⟩
            case measure => simp [intOf]; omega
          · obtain rfl : i = 32 := by omega
            have HW2 := HW.out
            rw [sqr_all, mat_twice] at HW2
            have HF := Aside0.mk HW2.st
            clear HW HW2
            go_wp2
            go_roundw
            case rel => exact ⟨p + p, q / 2, zer p A, by omega, by go_num, rfl, HA2, HE2, ⟨Or.inr HF.out⟩⟩
            case measure => simp [intOf]; omega
      · rw [show q % 2 = 0 by omega] at hbit
        have HE2 := Aside0.mk (show zer (q / 2 * (p + p)) A = zer n a by rw [half_even q p (by omega)]; exact HE.out)
        have HA2 := HA
        clear hodd
        go_wp2_with (first | (go_at_call 42; refine (do_any w _ p HH.out).mono ?_; rintro e w2 ⟨rfl, h1⟩; have H1 := Aside0.mk h1; clear h1) | (refine wpList_load_row rfl 83 (.tmp 9) rfl _ rfl _ _ _ _ H1.out.tab Tryd.underlying83 rfl (by kernel_rfl) ?_) | (refine wpList_store_row rfl 83 (.tmp 10) (.tmp 29) rfl _ _ rfl rfl _ _ (heap_alloc_new _ _) (by kernel_rfl) (by rw [row_size, mat_len]; rfl) (by kernel_rfl) ?_))
        rw [zero_row]
        have HW := Aside0.mk (st_was (m' := mat (zer p)) H1.out)
        clear hbit H1 hd HQ
        generalize (w2.alloc _).setRow _ _ = W3 at HW ⊢
        generalize w2.heap.size = g at HW ⊢
        go_loopw [30] (fun v30 wr => ∃ i : Nat, i ≤ 32 ∧ v30 = .int .i64 (i : Int) ∧ Aside0 (Was w wr g (sqr (zer p) i) (mat (zer p)))) (fun v30 _ => 32 - (intOf v30).toNat)
        case atStart => exact ⟨0, by omega, rfl, ⟨by rw [sqr_zero]; exact HW.out⟩⟩
        case round =>
          obtain ⟨i, hi, rfl, HW⟩ := hrel
          by_cases hi32 : i < 32
          · have hc := HW.out.cell i (by rw [mat_len]; exact hi32)
            have ht := HW.out.there i (by rw [sqr_len]; exact hi32)
            have hf := HW.out.froz i
            rw [mat_at _ i hi32] at hc
            have hx : zer p (2 ^ i) < 2 ^ 32 := zer_lt p (Nat.pow_lt_pow_right (by decide) hi32)
            have HN := Aside0.mk (HW.out.set i (zer p (zer p (2 ^ i))))
            rw [sqr_step _ i hi32] at HN
            generalize zer p (2 ^ i) = x at hc hx HN
            generalize (sqr (zer p) i).getD i 0 = y at ht
            have HX := Aside0.mk hx
            have hid : (i : Int) < 32 := by omega
            go_wp2_with (go_at_call 45; refine (on_any g 83 (zer p) (lin_zer p) x HX.out _ HW.out.was).mono ?_; rintro e w4 ⟨rfl, rfl⟩)
            go_roundw
            case rel => exact ⟨i + 1, by omega, by go_num, HN⟩
            case measure => simp [intOf]; omega
          · obtain rfl : i = 32 := by omega
            have HW2 := HW.out
            rw [sqr_all, mat_twice] at HW2
            have HF := Aside0.mk HW2.st
            clear HW HW2
            go_wp2
            go_roundw
            case rel => exact ⟨p + p, q / 2, A, by omega, by go_num, rfl, HA2, HE2, ⟨Or.inr HF.out⟩⟩
            case measure => simp [intOf]; omega
    · obtain rfl : q = 0 := by omega
      rw [Nat.zero_mul] at HE
      have HX := Aside0.mk (xor_u32 A b HA.out HB.out)
      have hd : decide ((0 : Int) < ((0 : Nat) : Int)) = false := rfl
      go_wp2
      go_ret2
      refine ⟨?_, HH.out.below⟩
      have e : A = zer n a := HE.out
      rw [← e, ← HX.out]
      rfl
end Go.Proofs.YtnanepgcaefhcaaDoor.HCombine
