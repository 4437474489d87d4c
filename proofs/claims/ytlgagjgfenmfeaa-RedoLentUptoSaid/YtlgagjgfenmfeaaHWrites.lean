/- RedoWrites: the plain laws of own and sameCommit, and the law's walk (r2's plain seat). -/
import Derived.Test.YtlgagjgfenmfeaaHEnc
set_option linter.unusedVariables false
set_option linter.unusedSimpArgs false
namespace Go.Proofs.Ytlgagjgfenmfeaa.HKinds
open Go.Proofs.YtlgagjgfenmfeaaW.PrintWords
abbrev S36 := PRed.S36
abbrev k36 : Kd S36 := PRed.k36
/-- A commit: what a law takes. -/
structure S25 where
  f0 : Int
  f1 : List S36
def k25 : Kd S25 := Kd.iso (Kd.pair (Kd.int .u64) (Kd.slice 36 k36)) (fun x : S25 => (x.f0, x.f1))
theorem k25_open {w : World} {x : S25} {cs : List Value} (h : k25.K w x cs) : ∃ A c, cs = [.int .u64 x.f0, .slice A x.f1.length c] ∧ x.f1.length ≤ c ∧ Kd.C k36 w A x.f1.length x.f1 := by
  obtain ⟨_, _, rfl, rfl, ⟨A, c, rfl, hl, hC⟩⟩ := h
  exact ⟨A, c, rfl, hl, hC⟩
end Go.Proofs.Ytlgagjgfenmfeaa.HKinds
namespace Go.Proofs.Ytlgagjgfenmfeaa.HWrites
open Go.RowKit Go.Proofs.Ytlgagjgfenmfeaa.PRed Go.Proofs.Ytlgagjgfenmfeaa.HRedL Go.Proofs.Ytlgagjgfenmfeaa.HEnc Go.Proofs.Ytlgagjgfenmfeaa.HBuild Go.Proofs.YtlgagjgfenmfeaaW.PrintWords Go.Proofs.YtlgagjgfenmfeaaW.PrintLast Go.Proofs.YtlgagjgfenmfeaaW.PrintMore Go.Proofs.Ytlgagjgfenmfeaa.HCore

theorem wrap_next {i n : Nat} (h : i < n) (hn : n < 9223372036854775807) : wrap64 ((i : Int) + 1) = ((i + 1 : Nat) : Int) := by rw [w64 (by omega) (by omega)]; omega

theorem own_loop (st : Int) (ws : List S36) (hn : ws.length < 3518437208883) (d : Nat) : ∀ (i k : Nat), i + d = ws.length → d < k →
    stratalaw11_own.l0 k (ws.take i) (i : Int) st ws = some (st, ws) := by
  induction d with
  | zero =>
    intro i k hi hk
    obtain ⟨k, rfl⟩ : ∃ k', k = k' + 1 := ⟨k - 1, by omega⟩
    rw [stratalaw11_own.l0, if_neg (by omega), List.take_of_length_le (by omega)]
  | succ d ih =>
    intro i k hi hk
    obtain ⟨k, rfl⟩ : ∃ k', k = k' + 1 := ⟨k - 1, by omega⟩
    have hlt : i < ws.length := by omega
    rw [stratalaw11_own.l0, if_pos (by omega), if_pos (by omega), if_pos (by rw [List.length_take]; omega), wrap_next hlt (by omega)]
    have e : ws.take i ++ [(⟨(rd_T36 ws (i : Int)).f0, (rd_T36 ws (i : Int)).f1, (rd_T36 ws (i : Int)).f2⟩ : S36)] = ws.take (i + 1) := by
      rw [List.take_succ_eq_append_getElem hlt, rd_get hlt]
    rw [e]
    exact ih (i + 1) k (by omega) (by omega)
theorem own_is (st : Int) (ws : List S36) (hn : ws.length < 3518437208883) (k : Nat) (hk : ws.length < k) : stratalaw11_own.f k st ws = some (st, ws) :=
  own_loop st ws hn ws.length 0 k (by omega) hk

theorem same_loop (st st' : Int) (ws : List S36) (hn : ws.length < 9223372036854775807) (d : Nat) : ∀ (i k : Nat), i + d = ws.length → d < k →
    stratalaw11_sameCommit.l0 k (i : Int) st ws st' ws = some true := by
  induction d with
  | zero =>
    intro i k hi hk
    obtain ⟨k, rfl⟩ : ∃ k', k = k' + 1 := ⟨k - 1, by omega⟩
    rw [stratalaw11_sameCommit.l0, if_neg (by omega)]
  | succ d ih =>
    intro i k hi hk
    obtain ⟨k, rfl⟩ : ∃ k', k = k' + 1 := ⟨k - 1, by omega⟩
    rw [stratalaw11_sameCommit.l0, if_pos (by omega), if_pos (by omega), if_pos (by omega), if_neg (by simp), wrap_next (n := ws.length) (by omega) hn]
    exact ih (i + 1) k (by omega) (by omega)
theorem same_is (st : Int) (ws : List S36) (hn : ws.length < 9223372036854775807) (k : Nat) (hk : ws.length + 1 < k) : stratalaw11_sameCommit.f k st ws st ws = some true := by
  obtain ⟨k, rfl⟩ : ∃ k', k = k' + 1 := ⟨k - 1, by omega⟩
  unfold stratalaw11_sameCommit.f
  rw [if_pos rfl, stratalaw11_sameCommit.j0, if_neg (by simp)]
  exact same_loop st st ws hn ws.length 0 k (by omega) (by omega)

set_option maxRecDepth 100000 in
set_option maxHeartbeats 4000000 in
theorem writes (st : Int) (A : Option Addr) (c : Nat) (ws : List S36) (w : World) (hC : Kd.C k36 w A ws.length ws) (hc : ws.length ≤ c) (hn : ws.length < 3518437208783) :
    Calls Try.prog 3 #[.agg #[.int .u64 st, .slice A ws.length c]] w fun e w' => e = .returned (.bool true) ∧ Below w.heap.size w w' := by
  have HO := Aside0.mk (own_is st ws (by omega) (ws.length + 1) (by omega))
  have HE : Aside0 (redo_EncodeCommit.f st ws = some ((encF st ws).1, (encF st ws).2)) := ⟨by unfold redo_EncodeCommit.f; rw [if_pos (by omega)]⟩
  have HR : Aside0 (strataref11_EncodeCommit.f (3 * ws.length + 3) st ws = some ((encF st ws).1, (encF st ws).2)) := ⟨ref_enc st ws (by omega) _ (by omega)⟩
  have HS := Aside0.mk (same_is st ws (by omega) (ws.length + 2) (by omega))
  have HC := Aside0.mk hC
  generalize (encF st ws).1 = o1 at HE HR
  generalize (encF st ws).2 = o2 at HE HR
  clear hC hn
  go_enter Try.func3, Try.ntmps3
  go_wp2_with fail
  refine (stratalaw11_own.calls _ st A c ws st ws _ (Kd.C_alloc HC.out _) hc HO.out).mono ?_
  rintro e w1 ⟨v1, rfl, hR1, hb1⟩
  have HB1 := Aside0.mk (below_then (below_alloc (Below.refl w.heap.size w) (.cells #[.int .u64 st, .slice A ws.length c] 25)) (by simp) hb1)
  have HX1 := Aside0.mk ((hb1.block _ (blk_lt (heap_alloc_new _ _))).trans (heap_alloc_new w (.cells #[.int .u64 st, .slice A ws.length c] 25)))
  obtain ⟨A1, c1, rfl, hl1, hC1⟩ := Kd.R_reads hR1
  clear hb1 hR1
  have HB2 := Aside0.mk (below_alloc HB1.out (.cells #[.int .u64 st, .slice A1 ws.length c1] 25))
  have HX2 := Aside0.mk ((heap_alloc_old w1 (.cells #[.int .u64 st, .slice A1 ws.length c1] 25) (blk_lt HX1.out)).trans HX1.out)
  have HY2 := Aside0.mk (heap_alloc_new w1 (.cells #[.int .u64 st, .slice A1 ws.length c1] 25))
  have HC2 := Aside0.mk (Kd.C_alloc hC1 (.cells #[.int .u64 st, .slice A1 ws.length c1] 25))
  clear hC1
  go_wp2_with fail
  refine (redo_EncodeCommit.calls st A1 c1 ws o1 o2 _ HC2.out hl1 HE.out).mono ?_
  rintro e w2 ⟨rfl, hb2⟩
  have HB3 := Aside0.mk (below_then HB2.out (below_size HB2.out) hb2)
  have HX3 := Aside0.mk ((hb2.block _ (blk_lt HX2.out)).trans HX2.out)
  have HY3 := Aside0.mk ((hb2.block _ (blk_lt HY2.out)).trans HY2.out)
  have HC3 := Aside0.mk (Kd.C_below HC2.out hb2)
  have HD3 := Aside0.mk (Kd.C_below HC.out HB3.out)
  clear hb2 HB1 HB2 HX1 HX2 HY2 HC2
  generalize w1.heap.size = b at HY3 ⊢
  have x0 : _ = some (Value.int .u64 st) := (blk_cell HX3.out 0).trans rfl
  have x1 : _ = some (Value.slice A ws.length c) := (blk_cell HX3.out 1).trans rfl
  have y0 : _ = some (Value.int .u64 st) := (blk_cell HY3.out 0).trans rfl
  have y1 : _ = some (Value.slice A1 ws.length c1) := (blk_cell HY3.out 1).trans rfl
  go_wp2_with fail
  refine (strataref11_EncodeCommit.calls _ st A c ws o1 o2 _ HD3.out hc HR.out).mono ?_
  rintro e w3 ⟨rfl, hb3⟩
  have HB4 := Aside0.mk (below_then HB3.out (below_size HB3.out) hb3)
  have HX4 := Aside0.mk ((hb3.block _ (blk_lt HX3.out)).trans HX3.out)
  have HY4 := Aside0.mk ((hb3.block _ (blk_lt HY3.out)).trans HY3.out)
  have HC4 := Aside0.mk (Kd.C_below HC3.out hb3)
  have HD4 := Aside0.mk (Kd.C_below HC.out HB4.out)
  clear hb3 x0 x1 y0 y1 HX3 HY3 HC3 HD3 HB3
  have x0 : _ = some (Value.int .u64 st) := (blk_cell HX4.out 0).trans rfl
  have x1 : _ = some (Value.slice A ws.length c) := (blk_cell HX4.out 1).trans rfl
  have y0 : _ = some (Value.int .u64 st) := (blk_cell HY4.out 0).trans rfl
  have y1 : _ = some (Value.slice A1 ws.length c1) := (blk_cell HY4.out 1).trans rfl
  go_wp2_with fail
  refine (stratalaw11_sameCommit.calls _ st A1 c1 ws st A c ws true _ HC4.out hl1 HD4.out hc HS.out).mono ?_
  rintro e w4 ⟨rfl, hb4⟩
  have HB5 := Aside0.mk (below_then HB4.out (below_size HB4.out) hb4)
  clear hb4 x0 x1 y0 y1 HB4 HX4 HY4 HC4 HD4
  go_wp2_with fail
  refine (stratalaw11_num.calls o2 o2 _ rfl).mono ?_
  rintro e w5 ⟨rfl, hd⟩
  go_wp2
  go_ret
  exact ⟨rfl, below_then HB5.out (below_size HB5.out) (hd.below)⟩
theorem walk (x : HKinds.S25) (cs : Array Value) (w : World) (hK : HKinds.k25.K w x cs.toList) (q : x.f1.length * 40 ≤ 140737488351232) :
    Calls Try.prog 3 #[.agg cs] w fun e w' => e = .returned (.bool true) ∧ Below w.heap.size w w' := by
  obtain ⟨A, c, hcs, hl, hC⟩ := HKinds.k25_open hK
  obtain rfl : cs = #[.int .u64 x.f0, .slice A x.f1.length c] := by cases cs; simp_all
  exact writes x.f0 A c x.f1 w hC hl (by omega)
end Go.Proofs.Ytlgagjgfenmfeaa.HWrites
