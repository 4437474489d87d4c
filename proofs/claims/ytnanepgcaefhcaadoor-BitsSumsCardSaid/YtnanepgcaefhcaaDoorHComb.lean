/- The parts of Combine: a table of 32 words laid over a number, by the program and by the document. Nothing that was there is changed. -/
import Derived.Test.YtnanepgcaefhcaaDoorProg
import Derived.Test.YtnanepgcaefhcaaDoorHMat
import Derived.Test.YtnanepgcaefhcaaDoorHSum
import Derived.WalkKit
import Derived.KernelRfl
import Derived.Below
import Derived.Laws.BitsAllLaws
import Derived.Laws.Rows
import Derived.Laws.Tables
import Derived.Laws.CopyOwn
import Derived.Outline
set_option linter.unusedVariables false
set_option linter.unusedSimpArgs false
namespace Go.Proofs.YtnanepgcaefhcaaDoor.HComb
open Go.RowKit Go.Proofs.YtnanepgcaefhcaaDoorW.PrintWords Go.Proofs.YtnanepgcaefhcaaDoorW.PrintLast Go.Proofs.YtnanepgcaefhcaaDoorW.PrintMore Go.Proofs.YtnanepgcaefhcaaDoor.HCore Go.Proofs.YtnanepgcaefhcaaDoor.HCrc Go.Proofs.YtnanepgcaefhcaaDoor.HMat Go.Proofs.YtnanepgcaefhcaaDoor.HSum

/-- The cells of a table. -/
def row (m : List Nat) : Array Value := (m.map fun n : Nat => Value.int .u32 (n : Int)).toArray
theorem row_at (f : Nat → Nat) (i : Nat) (hi : i < 32) : (row (mat f))[i]? = some (.int .u32 (((mat f).getD i 0 : Nat) : Int)) := by
  unfold row
  rw [List.getElem?_toArray, List.getElem?_map, List.getElem?_eq_getElem (by rw [mat_len]; exact hi)]
  rw [List.getD_eq_getElem?_getD, List.getElem?_eq_getElem (by rw [mat_len]; exact hi)]
  rfl
theorem row_size (m : List Nat) : (row m).size = m.length := by unfold row; simp
theorem and1_u32 (a : Nat) (ha : a < 2 ^ 32) : Go.bits .and .u32 (a : Int) 1 = ((a % 2 : Nat) : Int) := by
  have := u32_and (a : Int) 1 (by omega) (by omega) (by omega) (by omega)
  rw [this]
  simp only [Int.toNat_natCast]
  rw [show (1 : Int).toNat = 1 from rfl, nat_mask1]
theorem val_u32 {a b : Nat} (h : a = b) : Value.int .u32 (a : Int) = Value.int .u32 (b : Int) := by rw [h]
theorem ret_u32 {a b : Nat} (h : a = b) : Ending.returned (.int .u32 (a : Int)) = Ending.returned (.int .u32 (b : Int)) := by rw [h]
theorem half_div (r k : Nat) : r / 2 ^ (k + 1) = r / 2 ^ k / 2 := by rw [Nat.pow_succ, Nat.div_div_eq_div_mul]

set_option maxRecDepth 100000 in
set_option maxHeartbeats 1000000 in
theorem on_any (g t : Nat) (f : Nat → Nat) (hf : Lin f) (r : Nat) (hr : r < 2 ^ 32) (w : World) (hg : w.heap[g]? = some (.cells (row (mat f)) t (0, 0))) :
    Calls Tryd.prog 45 #[.pointer (some ⟨g, 0, none⟩), .int .u32 (r : Int)] w fun e w' => e = .returned (.int .u32 ((f r : Nat) : Int)) ∧ w' = w := by
  have HG := Aside0.mk hg
  have HF := Aside0.mk hf
  have HR := Aside0.mk hr
  clear hg hf hr
  go_enter Tryd.func45, Tryd.ntmps45
  go_wp2
  go_loop [1, 5, 6] (fun v1 v5 v6 => ∃ k : Nat, k ≤ 32 ∧ v1 = .int .u32 ((r / 2 ^ k : Nat) : Int) ∧ v6 = .int .i64 (k : Int) ∧ v5 = .int .u32 ((acc (mat f) r k : Nat) : Int)) (fun _ _ v6 => 32 - (intOf v6).toNat)
  case atStart => exact ⟨0, by omega, val_u32 (by simp), rfl, rfl⟩
  case round =>
    obtain ⟨k, hk, rfl, rfl, rfl⟩ := hrel
    by_cases h0 : r / 2 ^ k = 0
    · have HD := Aside0.mk (acc_done HF.out r k hk h0)
      have h0' : (((r / 2 ^ k : Nat) : Int) != 0) = false := by rw [h0]; rfl
      generalize acc (mat f) r k = t5 at HD
      generalize r / 2 ^ k = x at h0'
      clear h0
      go_wp2
      go_ret
      exact ⟨ret_u32 HD.out, rfl⟩
    · have hk32 : k < 32 := by
        apply Classical.byContradiction
        intro h
        obtain rfl : k = 32 := by omega
        exact h0 (Nat.div_eq_of_lt HR.out)
      have hx : r / 2 ^ k < 2 ^ 32 := Nat.lt_of_le_of_lt (Nat.div_le_self _ _) HR.out
      have hcell : w.cell? ⟨g, k, none⟩ = some (.int .u32 (((mat f).getD k 0 : Nat) : Int)) := (cell_of_row w g k _ _ _ HG.out).trans (row_at f k hk32)
      have ha : acc (mat f) r k < 2 ^ 32 := acc_lt HF.out r k
      have hm : (mat f).getD k 0 < 2 ^ 32 := mat_lt HF.out k
      have hh := half_div r k
      have hs : acc (mat f) r (k + 1) = if r / 2 ^ k % 2 = 1 then acc (mat f) r k ^^^ (mat f).getD k 0 else acc (mat f) r k := rfl
      have h0' : (((r / 2 ^ k : Nat) : Int) != 0) = true := by rw [bne_iff_ne]; omega
      generalize acc (mat f) r k = t5 at ha hs
      generalize (mat f).getD k 0 = m at hm hcell hs
      have HH := Aside0.mk hh
      have HS := Aside0.mk hs
      clear hh hs
      generalize r / 2 ^ k = x at hx h0 h0' HH HS
      have hb := and1_u32 x hx
      by_cases hbit : x % 2 = 1
      · rw [hbit] at hb
        have hxo := xor_u32 t5 m ha hm
        have HS2 := Aside0.mk (show acc (mat f) r (k + 1) = t5 ^^^ m by rw [HS.out, if_pos hbit])
        clear hbit h0 HS
        generalize t5 ^^^ m = tm at hxo HS2
        go_wp2
        go_round
        case rel => exact ⟨k + 1, by omega, by rw [HH.out]; simp, by go_num, by rw [HS2.out]⟩
        case measure => simp [intOf]; omega
      · rw [show x % 2 = 0 by omega] at hb
        have HS2 := Aside0.mk (show acc (mat f) r (k + 1) = t5 by rw [HS.out, if_neg hbit])
        clear hbit h0 HS
        go_wp2
        go_round
        case rel => exact ⟨k + 1, by omega, by rw [HH.out]; simp, by go_num, by rw [HS2.out]⟩
        case measure => simp [intOf]; omega
theorem bit_int (r k : Nat) : (((r : Int) / 2 ^ k).tmod 2 == 1) = decide (r / 2 ^ k % 2 = 1) := by
  have e : ((r : Int) / 2 ^ k) = ((r / 2 ^ k : Nat) : Int) := by
    rw [Int.natCast_ediv]
    congr 1
  rw [e, tmod_nn (Int.natCast_nonneg _)]
  rw [Bool.eq_iff_iff]
  simp
  omega
set_option maxRecDepth 100000 in
set_option maxHeartbeats 1000000 in
theorem through_any (f : Nat → Nat) (hf : Lin f) (r : Nat) (hr : r < 2 ^ 32) (w : World) :
    Calls Tryd.prog 46 #[.agg (row (mat f)), .int .u32 (r : Int)] w fun e w' => e = .returned (.int .u32 ((f r : Nat) : Int)) ∧ Below w.heap.size w w' := by
  have HF := Aside0.mk hf
  have HR := Aside0.mk hr
  clear hf
  have hr' : r ≤ 4294967295 := by omega
  clear hr
  go_enter Tryd.func46, Tryd.ntmps46
  go_wp2
  go_loop [5, 6] (fun v5 v6 => ∃ k : Nat, k ≤ 32 ∧ v6 = .int .i64 (k : Int) ∧ v5 = .int .u32 ((acc (mat f) r k : Nat) : Int)) (fun _ v6 => 32 - (intOf v6).toNat)
  case atStart => exact ⟨0, by omega, rfl, rfl⟩
  case round =>
    obtain ⟨k, hk, rfl, rfl⟩ := hrel
    by_cases hk32 : k < 32
    · have hrow := row_at f k hk32
      have ha : acc (mat f) r k < 2 ^ 32 := acc_lt HF.out r k
      have hm : (mat f).getD k 0 < 2 ^ 32 := mat_lt HF.out k
      have hs : acc (mat f) r (k + 1) = if r / 2 ^ k % 2 = 1 then acc (mat f) r k ^^^ (mat f).getD k 0 else acc (mat f) r k := rfl
      generalize acc (mat f) r k = t5 at ha hs
      generalize (mat f).getD k 0 = m at hm hrow hs
      have HS := Aside0.mk hs
      clear hs
      have hbi := bit_int r k
      by_cases hbit : r / 2 ^ k % 2 = 1
      · rw [decide_eq_true hbit] at hbi
        have hxo := xor_u32 t5 m ha hm
        have HS2 := Aside0.mk (show acc (mat f) r (k + 1) = t5 ^^^ m by rw [HS.out, if_pos hbit])
        clear hbit HS
        generalize t5 ^^^ m = tm at hxo HS2
        go_wp2
        go_round
        case rel => exact ⟨k + 1, by omega, by go_num, by rw [HS2.out]⟩
        case measure => simp [intOf]; omega
      · rw [decide_eq_false hbit] at hbi
        have HS2 := Aside0.mk (show acc (mat f) r (k + 1) = t5 by rw [HS.out, if_neg hbit])
        clear hbit HS
        go_wp2
        go_round
        case rel => exact ⟨k + 1, by omega, by go_num, by rw [HS2.out]⟩
        case measure => simp [intOf]; omega
    · obtain rfl : k = 32 := by omega
      have HA := Aside0.mk (acc_all HF.out r HR.out)
      go_wp2
      go_ret
      exact ⟨ret_u32 HA.out, below_alloc (Below.refl _ _) _⟩
theorem move_val (r : Nat) (hr : r < 2 ^ 32) : Go.bits .xor .u32 ((r : Int) / 2) (Go.bits .and .u32 2197175160 (-Go.bits .and .u32 (r : Int) 1 % 4294967296)) = ((dn r : Nat) : Int) := by
  rw [and1_u32 r hr]
  unfold dn
  have e2 : ((r : Int) / 2) = ((r / 2 : Nat) : Int) := by omega
  rcases Nat.mod_two_eq_zero_or_one r with h | h
  · rw [h, if_neg (by decide), show -((0 : Nat) : Int) % 4294967296 = 0 by decide, show Go.bits .and .u32 2197175160 0 = ((0 : Nat) : Int) by decide, e2, xor_u32 _ _ (by omega) (by decide), Nat.xor_zero]
  · rw [h, if_pos rfl, show -((1 : Nat) : Int) % 4294967296 = 4294967295 by decide, show Go.bits .and .u32 2197175160 4294967295 = ((poly : Nat) : Int) by decide, e2, xor_u32 _ _ (by omega) (by decide)]
set_option maxHeartbeats 1000000 in
theorem move_any (r : Nat) (hr : r < 2 ^ 32) (w : World) :
    Calls Tryd.prog 67 #[.int .u32 (r : Int)] w fun e w' => e = .returned (.int .u32 ((dn r : Nat) : Int)) ∧ w' = w := by
  have hr' : r ≤ 4294967295 := by omega
  have HV := Aside0.mk (move_val r hr)
  clear hr
  go_enter Tryd.func67, Tryd.ntmps67
  go_wp2
  go_ret
  exact ⟨by rw [← HV.out]; rfl, rfl⟩
set_option maxHeartbeats 1000000 in
theorem down_any (r : Nat) (hr : r < 2 ^ 32) (w : World) :
    Calls Tryd.prog 41 #[.int .u32 (r : Int)] w fun e w' => e = .returned (.int .u32 ((dn r : Nat) : Int)) ∧ w' = w := by
  have hr' : r ≤ 4294967295 := by omega
  have e2 : ((r : Int) / 2) = ((r / 2 : Nat) : Int) := by omega
  rcases Nat.mod_two_eq_zero_or_one r with h | h
  · have HV := Aside0.mk (show dn r = r / 2 by unfold dn; rw [if_neg (by omega)])
    have hq : ((r : Int) % 2 == 1) = false := by rw [beq_eq_false_iff_ne]; omega
    have HE := Aside0.mk e2
    clear e2 hr
    go_enter Tryd.func41, Tryd.ntmps41
    go_wp2
    go_ret
    exact ⟨by rw [HV.out, ← HE.out]; rfl, rfl⟩
  · have HV := Aside0.mk (show Go.bits .xor .u32 ((r : Int) / 2) 2197175160 = ((dn r : Nat) : Int) by unfold dn; rw [if_pos h, e2]; exact xor_u32 (r / 2) poly (by omega) (by decide))
    have hq : ((r : Int) % 2 == 1) = true := by rw [beq_iff_eq]; omega
    have HE := Aside0.mk e2
    clear e2 hr h
    go_enter Tryd.func41, Tryd.ntmps41
    go_wp2
    go_ret
    exact ⟨by rw [← HV.out]; rfl, rfl⟩
/-- The table of zeros, its first k rows made. -/
def zp (k : Nat) : List Nat := (List.range 32).map fun i => if i < k then dn8 (2 ^ i) else 0
theorem zp_len (k : Nat) : (zp k).length = 32 := by unfold zp; rw [List.length_map, List.length_range]
theorem zp_all : zp 32 = mat dn8 := by unfold zp mat; apply List.map_congr_left; intro i hi; rw [if_pos (by simpa using hi)]
theorem zp_step (k : Nat) (hk : k < 32) : (zp k).set k (dns 8 (2 ^ k)) = zp (k + 1) := by
  apply List.ext_getElem?
  intro j
  unfold zp
  rw [List.getElem?_set]
  simp only [List.length_map, List.length_range, List.getElem?_map]
  by_cases h : k = j
  · subst h; rw [if_pos rfl, if_pos hk, List.getElem?_range hk]; simp only [Option.map_some]; rw [if_pos (by omega)]; rfl
  · rw [if_neg h]
    by_cases hj : j < 32
    · rw [List.getElem?_range hj]
      simp only [Option.map_some, Option.some.injEq]
      by_cases g : j < k
      · rw [if_pos g, if_pos (by omega)]
      · rw [if_neg g, if_neg (by omega)]
    · rw [List.getElem?_eq_none (by rw [List.length_range]; omega)]
      rfl
theorem row_set (m : List Nat) (i v : Nat) : (row m).setIfInBounds i (.int .u32 (v : Int)) = row (m.set i v) := by
  unfold row
  rw [List.setIfInBounds_toArray, List.map_set]
theorem row_get (m : List Nat) (i : Nat) (hi : i < m.length) : (row m)[i]? = some (.int .u32 ((m.getD i 0 : Nat) : Int)) := by
  unfold row
  rw [List.getElem?_toArray, List.getElem?_map, List.getElem?_eq_getElem hi, List.getD_eq_getElem?_getD, List.getElem?_eq_getElem hi]
  rfl
theorem zero_row : (#[.int .u32 0, .int .u32 0, .int .u32 0, .int .u32 0, .int .u32 0, .int .u32 0, .int .u32 0, .int .u32 0, .int .u32 0, .int .u32 0, .int .u32 0, .int .u32 0, .int .u32 0, .int .u32 0, .int .u32 0, .int .u32 0, .int .u32 0, .int .u32 0, .int .u32 0, .int .u32 0, .int .u32 0, .int .u32 0, .int .u32 0, .int .u32 0, .int .u32 0, .int .u32 0, .int .u32 0, .int .u32 0, .int .u32 0, .int .u32 0, .int .u32 0, .int .u32 0] : Array Value) = row (zp 0) := rfl
/-- What a world holds where two new tables lie at B and behind it. -/
structure Two (w wr : World) (t : Nat) (m : List Nat) : Prop where
  below : Below w.heap.size w wr
  first : wr.heap[w.heap.size]? = some (.cells (row (zp 0)) t (0, 0))
  second : wr.heap[w.heap.size + 1]? = some (.cells (row m) t (0, 0))
theorem Two.start (w : World) (t : Nat) : Two w ((w.alloc (.cells (row (zp 0)) t)).alloc (.cells (row (zp 0)) t)) t (zp 0) :=
  ⟨below_alloc (below_alloc (Below.refl _ _) _) _, heap_alloc2_old _ _ _, heap_alloc2_new _ _ _⟩
theorem Two.set {w wr : World} {t : Nat} {m : List Nat} (h : Two w wr t m) (i v : Nat) : Two w (wr.setCell ⟨w.heap.size + 1, i, none⟩ (.int .u32 (v : Int))) t (m.set i v) :=
  ⟨h.below.setCell (by simp) _, blk_far h.first (by simp) _, by have := blk_set h.second i (.int .u32 (v : Int)); rwa [row_set] at this⟩
theorem Two.cell {w wr : World} {t : Nat} {m : List Nat} (h : Two w wr t m) (i : Nat) (hi : i < m.length) : wr.cell? ⟨w.heap.size + 1, i, none⟩ = some (.int .u32 ((m.getD i 0 : Nat) : Int)) := (blk_cell h.second i).trans (row_get m i hi)
theorem Two.froz {w wr : World} {t : Nat} {m : List Nat} (h : Two w wr t m) (i : Nat) : wr.frozen? ⟨w.heap.size + 1, i, none⟩ = false := blk_frozen h.second i
set_option maxRecDepth 100000 in
set_option maxHeartbeats 1000000 in
theorem zeros_any  (w : World) :
    Calls Tryd.prog 44 #[] w fun e w' => e = .returned (.agg (row (mat dn8))) ∧ Below w.heap.size w w' := by
  have HT := Aside0.mk (Two.start w 83)
  go_enter Tryd.func44, Tryd.ntmps44
  go_wp2
  rw [zero_row]
  generalize (w.alloc _).alloc _ = W0 at HT ⊢
  go_loopw [3] (fun v3 wr => ∃ k : Nat, k ≤ 32 ∧ v3 = .int .i64 (k : Int) ∧ Aside0 (Two w wr 83 (zp k))) (fun v3 _ => 32 - (intOf v3).toNat)
  case atStart => exact ⟨0, by omega, rfl, HT⟩
  case round =>
    obtain ⟨k, hk, rfl, HT⟩ := hrel
    by_cases hk32 : k < 32
    · have hc := HT.out.cell k (by rw [zp_len]; exact hk32)
      have hf := HT.out.froz k
      obtain ⟨p, hp⟩ : ∃ p : Nat, 2 ^ k = p := ⟨_, rfl⟩
      have hplt : p < 2 ^ 32 := by rw [← hp]; exact Nat.pow_lt_pow_right (by decide) hk32
      have hpi : ((2 : Int) ^ k % 4294967296) = (p : Int) := by
        have e : (2 : Int) ^ k = ((2 ^ k : Nat) : Int) := by simp
        rw [e, hp]
        omega
      have HZ := Aside0.mk (zp_step k hk32)
      rw [hp] at HZ
      clear hp
      have HP := Aside0.mk hplt
      have HN := Aside0.mk (HT.out.set k p)
      have hl := zp_len k
      generalize zp k = Z at HT HN HZ hc hl
      have HL := Aside0.mk hl
      clear hl hplt
      have hd : decide ((k : Int) < 32) = true := decide_eq_true (by omega)
      go_wp2
      clear hc hf hpi
      have HK := Aside0.mk hk32
      generalize wr.setCell _ _ = W1 at HN ⊢
      go_loopw [10] (fun v10 wr => ∃ j : Nat, j ≤ 8 ∧ v10 = .int .i64 (j : Int) ∧ Aside0 (Two w wr 83 (Z.set k (dns j p)))) (fun v10 _ => 8 - (intOf v10).toNat)
      case atStart => exact ⟨0, by omega, rfl, HN⟩
      case round =>
        obtain ⟨j, hj, rfl, HJ⟩ := hrel
        by_cases hj8 : j < 8
        · have hc := HJ.out.cell k (by rw [List.length_set, HL.out]; exact HK.out)
          have hf := HJ.out.froz k
          have hx : dns j p < 2 ^ 32 := dns_lt j HP.out
          have he : (Z.set k (dns j p)).getD k 0 = dns j p := by
            rw [List.getD_eq_getElem?_getD, List.getElem?_set]
            rw [if_pos rfl, if_pos (by rw [HL.out]; exact HK.out)]
            rfl
          rw [he] at hc
          have HX := Aside0.mk (show Two w (wr.setCell ⟨w.heap.size + 1, k, none⟩ (.int .u32 ((dn (dns j p) : Nat) : Int))) 83 (Z.set k (dns (j + 1) p)) by
            have := HJ.out.set k (dn (dns j p))
            rw [List.set_set] at this
            have e2 : dns (j + 1) p = dn (dns j p) := dns_add j 1 p
            rw [e2]
            exact this)
          clear he
          generalize dns j p = x at HJ hc hx HX
          go_wp2_with (go_at_call 67; refine (move_any _ hx _).mono ?_; rintro e w' ⟨rfl, rfl⟩)
          go_roundw
          case rel => exact ⟨j + 1, by omega, by go_num, HX⟩
          case measure => simp [intOf]; omega
        · obtain rfl : j = 8 := by omega
          rw [HZ.out] at HJ
          go_wp2
          go_roundw
          case rel => exact ⟨k + 1, by omega, by go_num, HJ⟩
          case measure => simp [intOf]; omega
    · obtain rfl : k = 32 := by omega
      rw [zp_all] at HT
      have h1 := HT.out.first
      have h2 := HT.out.second
      have HS := Aside0.mk h2
      go_wp2_with (first | (refine wpList_load_row rfl 83 _ rfl _ rfl _ _ _ _ HS.out Tryd.underlying83 rfl (by kernel_rfl) ?_) | (refine wpList_store_row rfl 83 _ _ rfl _ _ rfl rfl _ _ h1 (by kernel_rfl) rfl (by kernel_rfl) ?_))
      refine bodyPost_ret (v := .agg (row (mat dn8))) (results_cell_row (fn := Tryd.f44) rfl _ _ _ _ _ _ _ rfl (setRow_heap _ _ _ _ _ _ h1) Tryd.underlying83 rfl (by kernel_rfl)) rfl ⟨rfl, ?_⟩
      exact below_setRow HT.out.below (Nat.le_refl _) _
end Go.Proofs.YtnanepgcaefhcaaDoor.HComb
