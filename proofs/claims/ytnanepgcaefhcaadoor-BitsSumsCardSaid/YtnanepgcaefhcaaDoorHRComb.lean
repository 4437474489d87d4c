/- Combine, by the document: the sum of two texts joined, out of both sums; nothing that was there is changed. And both Combines as plain functions. -/
import Derived.Test.YtnanepgcaefhcaaDoorHSquare
import Derived.Test.YtnanepgcaefhcaaDoorHCombine
set_option linter.unusedVariables false
set_option linter.unusedSimpArgs false
namespace Go.Proofs.YtnanepgcaefhcaaDoor.HRComb
open Go.RowKit Go.Proofs.YtnanepgcaefhcaaDoorW.PrintWords Go.Proofs.YtnanepgcaefhcaaDoorW.PrintLast Go.Proofs.YtnanepgcaefhcaaDoorW.PrintMore Go.Proofs.YtnanepgcaefhcaaDoor.HCore Go.Proofs.YtnanepgcaefhcaaDoor.HCrc Go.Proofs.YtnanepgcaefhcaaDoor.HMat Go.Proofs.YtnanepgcaefhcaaDoor.HSum Go.Proofs.YtnanepgcaefhcaaDoor.HComb Go.Proofs.YtnanepgcaefhcaaDoor.HSquare Go.Proofs.YtnanepgcaefhcaaDoor.HCombine

/-- The table in a new block. -/
structure Tb (w wr : World) (m : List Nat) : Prop where
  below : Below w.heap.size w wr
  tab : wr.heap[w.heap.size]? = some (.cells (row m) 82 (0, 0))
theorem Tb.start (w : World) : Tb w (w.alloc (.cells (row (zp 0)) 82)) (zp 0) := ⟨below_alloc (Below.refl _ _) _, heap_alloc_new _ _⟩
theorem Tb.set {w wr : World} {m : List Nat} (h : Tb w wr m) (i v : Nat) : Tb w (wr.setCell ⟨w.heap.size, i, none⟩ (.int .u32 (v : Int))) (m.set i v) :=
  ⟨h.below.setCell (by simp) _, by have := blk_set h.tab i (.int .u32 (v : Int)); rwa [row_set] at this⟩
theorem Tb.grown {w wr w1 : World} {m : List Nat} (h : Tb w wr m) (hb : Below wr.heap.size wr w1) : Tb w w1 m := ⟨below_then h.below h.below.size hb, (hb.block _ (blk_lt h.tab)).trans h.tab⟩
theorem Tb.put {w wr : World} {m m' : List Nat} (h : Tb w wr m) : Tb w (wr.setRow w.heap.size (row m')) m' := ⟨below_setRow h.below (Nat.le_refl _) _, setRow_heap _ _ _ _ _ _ h.tab⟩
theorem Tb.cell {w wr : World} {m : List Nat} (h : Tb w wr m) (i : Nat) (hi : i < m.length) : wr.cell? ⟨w.heap.size, i, none⟩ = some (.int .u32 ((m.getD i 0 : Nat) : Int)) := (blk_cell h.tab i).trans (row_get m i hi)
theorem Tb.froz {w wr : World} {m : List Nat} (h : Tb w wr m) (i : Nat) : wr.frozen? ⟨w.heap.size, i, none⟩ = false := blk_frozen h.tab i
theorem half_odd' (q p A : Nat) (h : q % 2 = 1) : dns (q / 2 * (p + p)) (dns p A) = dns (q * p) A := by
  rw [← dns_add]
  congr 1
  obtain ⟨k, rfl⟩ : ∃ k, q = 2 * k + 1 := ⟨q / 2, by omega⟩
  rw [show (2 * k + 1) / 2 = k by omega, Nat.add_mul, Nat.one_mul, Nat.mul_add, Nat.mul_assoc, Nat.two_mul]
  omega

theorem rcombine_out (a b : Nat) (n : Int) (w : World) (hn : n < 0 ∨ 1048576 < n) :
    Calls Tryd.prog 21 #[.int .u32 (a : Int), .int .u32 (b : Int), .int .i64 n] w fun e w' => e = .returned (.tuple #[.int .u32 0, .int .i64 10]) ∧ Below w.heap.size w w' := by
  rcases hn with hn | hn
  · go_enter Tryd.func21, Tryd.ntmps21
    go_wp2
    go_ret2
    exact ⟨rfl, Below.refl _ _⟩
  · have h0 : decide (n < 0) = false := decide_eq_false (by omega)
    go_enter Tryd.func21, Tryd.ntmps21
    go_wp2
    go_ret2
    exact ⟨rfl, Below.refl _ _⟩

set_option maxRecDepth 100000 in
set_option maxHeartbeats 4000000 in
theorem rcombine_in (a b n : Nat) (ha : a < 2 ^ 32) (hb : b < 2 ^ 32) (hn : n ≤ 1048576) (w : World) :
    Calls Tryd.prog 21 #[.int .u32 (a : Int), .int .u32 (b : Int), .int .i64 (n : Int)] w fun e w' => e = .returned (.tuple #[.int .u32 (((dns (8 * n) a) ^^^ b : Nat) : Int), .int .i64 0]) ∧ Below w.heap.size w w' := by
  have h0 : decide ((n : Int) < 0) = false := decide_eq_false (by omega)
  have h1 : decide (1048576 < (n : Int)) = false := decide_eq_false (by omega)
  have HT := Aside0.mk (Tb.start w)
  have HA := Aside0.mk ha
  have HB := Aside0.mk hb
  clear ha hb
  go_enter Tryd.func21, Tryd.ntmps21
  go_wp2
  rw [zero_row]
  generalize w.alloc _ = W0 at HT ⊢
  clear h0 h1
  go_loopw [9] (fun v9 wr => ∃ k : Nat, k ≤ 32 ∧ v9 = .int .i64 (k : Int) ∧ Aside0 (Tb w wr (tpart dn k))) (fun v9 _ => 32 - (intOf v9).toNat)
  case atStart => exact ⟨0, by omega, rfl, ⟨by rw [tpart_zero]; exact HT.out⟩⟩
  case round =>
    obtain ⟨k, hk, rfl, HT⟩ := hrel
    by_cases hk32 : k < 32
    · have hki : (k : Int) < 32 := by omega
      have hc := HT.out.cell k (by rw [tpart_len]; exact hk32)
      have hf := HT.out.froz k
      have HN := Aside0.mk (HT.out.set k (dn (2 ^ k)))
      rw [tpart_step dn k hk32] at HN
      have hp : 2 ^ k < 2 ^ 32 := Nat.pow_lt_pow_right (by decide) hk32
      obtain ⟨p, hpe⟩ : ∃ p : Nat, 2 ^ k = p := ⟨_, rfl⟩
      have hpi : ((2 : Int) ^ k % 4294967296) = (p : Int) := by
        have e : (2 : Int) ^ k = ((2 ^ k : Nat) : Int) := by simp
        rw [e, hpe]
        omega
      rw [hpe] at hp HN
      have HP := Aside0.mk hp
      clear hpe hp
      generalize (tpart dn k).getD k 0 = y at hc
      go_wp2_with (go_at_call 41; refine (down_any p HP.out _).mono ?_; rintro e w' ⟨rfl, rfl⟩)
      go_roundw
      case rel => exact ⟨k + 1, by omega, by go_num, HN⟩
      case measure => simp [intOf]; omega
    · have hk2 : k = 32 := by omega
      rw [hk2, tpart_all] at HT
      have HT1 : Aside0 (Tb w wr (mat (dns 1))) := HT
      have hd : decide ((k : Int) < 32) = false := decide_eq_false (by omega)
      clear HT hk2 hk32 hk
      go_wp2
      clear hd
      go_loopw [0, 10] (fun v0 v10 wr => ∃ p q A : Nat, q ≤ 8388608 ∧ v10 = .int .i64 (q : Int) ∧ v0 = .int .u32 (A : Int) ∧ Aside0 (A < 2 ^ 32) ∧ Aside0 (dns (q * p) A = dns (8 * n) a) ∧ Aside0 (Tb w wr (mat (dns p)))) (fun _ v10 _ => (intOf v10).toNat)
      case atStart => exact ⟨1, 8 * n, a, by omega, by rw [show ((8 * n : Nat) : Int) = 8 * (n : Int) by omega], rfl, HA, ⟨by rw [Nat.mul_one]⟩, HT1⟩
      case round =>
        obtain ⟨p, q, A, hq, rfl, rfl, HA, HE, HH⟩ := hrel
        by_cases hq0 : 0 < q
        · have hd : decide (0 < (q : Int)) = true := decide_eq_true (by omega)
          by_cases hodd : q % 2 = 1
          · have hbit : ((q : Int) % 2 == 1) = true := by rw [beq_iff_eq]; omega
            have HE2 := Aside0.mk ((half_odd' q p A hodd).trans HE.out)
            have HA2 := Aside0.mk (dns_lt p HA.out)
            clear hodd
            go_wp2_with (first | (refine wpList_load_row rfl 82 (.tmp 8) rfl _ rfl _ _ _ _ HH.out.tab Tryd.underlying82 rfl (by kernel_rfl) ?_) | (go_at_call 46; refine (through_any (dns p) (lin_dns p) A HA.out _).mono ?_; rintro e w2 ⟨rfl, hb⟩; have HH := Aside0.mk (HH.out.grown hb); clear hb) | (go_at_call 47; refine (square_any (dns p) (lin_dns p) _).mono ?_; rintro e w3 ⟨rfl, hb⟩; have HH := Aside0.mk (HH.out.grown hb); clear hb) | (refine wpList_store_row rfl 82 (.tmp 8) (.tmp 40) rfl _ _ rfl rfl _ _ HH.out.tab (by kernel_rfl) (by rw [row_size, row_size, mat_len, mat_len]) (by kernel_rfl) ?_))
            go_roundw
            case rel => exact ⟨p + p, q / 2, dns p A, by omega, by go_num, rfl, HA2, HE2, ⟨by rw [← dns_twice]; exact HH.out.put⟩⟩
            case measure => simp [intOf]; omega
          · have hbit : ((q : Int) % 2 == 1) = false := by rw [beq_eq_false_iff_ne]; omega
            have HE2 := Aside0.mk (show dns (q / 2 * (p + p)) A = dns (8 * n) a by rw [half_even q p (by omega)]; exact HE.out)
            have HA2 := HA
            clear hodd
            go_wp2_with (first | (refine wpList_load_row rfl 82 (.tmp 8) rfl _ rfl _ _ _ _ HH.out.tab Tryd.underlying82 rfl (by kernel_rfl) ?_) | (go_at_call 47; refine (square_any (dns p) (lin_dns p) _).mono ?_; rintro e w3 ⟨rfl, hb⟩; have HH := Aside0.mk (HH.out.grown hb); clear hb) | (refine wpList_store_row rfl 82 (.tmp 8) (.tmp 40) rfl _ _ rfl rfl _ _ HH.out.tab (by kernel_rfl) (by rw [row_size, row_size, mat_len, mat_len]) (by kernel_rfl) ?_))
            go_roundw
            case rel => exact ⟨p + p, q / 2, A, by omega, by go_num, rfl, HA2, HE2, ⟨by rw [← dns_twice]; exact HH.out.put⟩⟩
            case measure => simp [intOf]; omega
        · have hq2 : q = 0 := by omega
          have hd : decide (0 < (q : Int)) = false := decide_eq_false (by omega)
          rw [hq2, Nat.zero_mul] at HE
          have HX := Aside0.mk (xor_u32 A b HA.out HB.out)
          clear hq2
          go_wp2
          go_ret2
          refine ⟨?_, HH.out.below⟩
          have e : A = dns (8 * n) a := HE.out
          rw [← e, ← HX.out]
          rfl

/-- The two Combines, as plain functions. -/
def cmb (a b n : Int) : Option (Int × Int) := if 0 ≤ a ∧ a ≤ 4294967295 ∧ 0 ≤ b ∧ b ≤ 4294967295 then some (if n < 0 ∨ 1048576 < n then (0, 10) else (((zer n.toNat a.toNat ^^^ b.toNat : Nat) : Int), 0)) else none
def bits_Combine.f (a b n : Int) : Option (Int × Int) := cmb a b n
def strataref01_Combine.f (a b n : Int) : Option (Int × Int) := cmb a b n
theorem bits_Combine.calls (a b n : Int) (r0 r1 : Int) (w : World) (h : bits_Combine.f a b n = some (r0, r1)) :
    Calls Tryd.prog 20 #[.int .u32 a, .int .u32 b, .int .i64 n] w fun e w' => e = .returned (.tuple #[.int .u32 r0, .int .i64 r1]) ∧ Below w.heap.size w w' := by
  unfold bits_Combine.f cmb at h
  by_cases g : 0 ≤ a ∧ a ≤ 4294967295 ∧ 0 ≤ b ∧ b ≤ 4294967295
  · rw [if_pos g] at h
    obtain ⟨a, rfl⟩ := Int.eq_ofNat_of_zero_le g.1
    obtain ⟨b, rfl⟩ := Int.eq_ofNat_of_zero_le g.2.2.1
    by_cases k : n < 0 ∨ 1048576 < n
    · rw [if_pos k] at h
      obtain ⟨rfl, rfl⟩ := Prod.mk.inj (Option.some.inj h)
      exact combine_out a b n w k
    · rw [if_neg k] at h
      obtain ⟨rfl, rfl⟩ := Prod.mk.inj (Option.some.inj h)
      obtain ⟨n, rfl⟩ := Int.eq_ofNat_of_zero_le (show 0 ≤ n by omega)
      exact combine_in a b n (by omega) (by omega) (by omega) w
  · rw [if_neg g] at h
    cases h
theorem strataref01_Combine.calls (a b n : Int) (r0 r1 : Int) (w : World) (h : strataref01_Combine.f a b n = some (r0, r1)) :
    Calls Tryd.prog 21 #[.int .u32 a, .int .u32 b, .int .i64 n] w fun e w' => e = .returned (.tuple #[.int .u32 r0, .int .i64 r1]) ∧ Below w.heap.size w w' := by
  unfold strataref01_Combine.f cmb at h
  by_cases g : 0 ≤ a ∧ a ≤ 4294967295 ∧ 0 ≤ b ∧ b ≤ 4294967295
  · rw [if_pos g] at h
    obtain ⟨a, rfl⟩ := Int.eq_ofNat_of_zero_le g.1
    obtain ⟨b, rfl⟩ := Int.eq_ofNat_of_zero_le g.2.2.1
    by_cases k : n < 0 ∨ 1048576 < n
    · rw [if_pos k] at h
      obtain ⟨rfl, rfl⟩ := Prod.mk.inj (Option.some.inj h)
      exact rcombine_out a b n w k
    · rw [if_neg k] at h
      obtain ⟨rfl, rfl⟩ := Prod.mk.inj (Option.some.inj h)
      obtain ⟨n, rfl⟩ := Int.eq_ofNat_of_zero_le (show 0 ≤ n by omega)
      rw [Int.toNat_natCast, Int.toNat_natCast, Int.toNat_natCast, ← dns_eight]
      exact rcombine_in a b n (by omega) (by omega) (by omega) w
  · rw [if_neg g] at h
    cases h
end Go.Proofs.YtnanepgcaefhcaaDoor.HRComb
