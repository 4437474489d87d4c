/- bits.Uvarint, called with any number of 64 bits, returns its bytes in groups of seven bits, the lowest first, and changes nothing that was there. -/
import Derived.Test.YtlgagjgfenmfeaaProg
import Derived.Test.YtlgagjgfenmfeaaHCore
import Derived.WalkKit
import Derived.KernelRfl
import Derived.Below
import Derived.Laws.BytesArg
import Derived.Laws.Slices
import Derived.Deep.LoopGhost
set_option linter.unusedVariables false
set_option linter.unusedSimpArgs false
namespace Go.Proofs.Ytlgagjgfenmfeaa.HUv
open Go.RowKit Go.Proofs.YtlgagjgfenmfeaaW.PrintWords Go.Proofs.YtlgagjgfenmfeaaW.PrintLast Go.Proofs.YtlgagjgfenmfeaaW.PrintMore Go.Proofs.Ytlgagjgfenmfeaa.HCore

structure St (v x i d : Nat) (pre : List Nat) : Prop where
  len : pre.length = i
  sum : i + d = 10
  all : pre ++ uvl d x = uvl 10 v
  small : x < 2 ^ 64 / 128 ^ i
theorem St.lt {v x i d : Nat} {pre : List Nat} (h : St v x i d pre) : i ≤ 9 ∧ x < 2 ^ 64 := by
  have h1 := h.small
  have h2 : 2 ^ 64 / 128 ^ i ≤ 2 ^ 64 := Nat.div_le_self _ _
  refine ⟨?_, by omega⟩
  rcases Nat.lt_or_ge 9 i with g | g
  · have : i = 10 := by have := h.sum; omega
    subst this
    have e : 2 ^ 64 / 128 ^ 10 = 0 := by decide
    omega
  · exact g
theorem St.next {v x i d : Nat} {pre : List Nat} (h : St v x i d pre) (hx : 128 ≤ x) : St v (x / 128) (i + 1) (d - 1) (pre ++ [x % 128 + 128]) ∧ 1 ≤ d := by
  have hi := h.lt.1
  have hs := h.sum
  obtain ⟨d, rfl⟩ : ∃ e, d = e + 1 := ⟨d - 1, by omega⟩
  refine ⟨⟨by simp [h.len], by omega, ?_, ?_⟩, by omega⟩
  · have e : uvl (d + 1) x = (x % 128 + 128) :: uvl d (x / 128) := by rw [uvl, if_pos hx]
    rw [← h.all, e]
    simp
  · rw [show 128 ^ (i + 1) = 128 ^ i * 128 from Nat.pow_succ 128 i, ← Nat.div_div_eq_div_mul]
    have h1 := h.small
    have : x / 128 < 2 ^ 64 / 128 ^ i / 128 ∨ 2 ^ 64 / 128 ^ i / 128 ≤ x / 128 := by omega
    rcases this with g | g
    · exact g
    · exfalso
      have hdv : 128 * (2 ^ 64 / 128 ^ i / 128) = 2 ^ 64 / 128 ^ i := by
        have hm : ∀ i, i < 10 → i ≠ 9 → 128 * (2 ^ 64 / 128 ^ i / 128) = 2 ^ 64 / 128 ^ i := by decide
        refine hm i (by omega) ?_
        rintro rfl
        have e : 2 ^ 64 / 128 ^ 9 = 2 := by decide
        omega
      omega
theorem St.last {v x i d : Nat} {pre : List Nat} (h : St v x i d pre) (hx : ¬ 128 ≤ x) : pre ++ [x] = uvl 10 v := by
  have hi := h.lt.1
  have hs := h.sum
  obtain ⟨d, rfl⟩ : ∃ e, d = e + 1 := ⟨d - 1, by omega⟩
  have e : uvl (d + 1) x = [x] := by rw [uvl, if_neg hx]
  rw [← h.all, e]

theorem run_slice10 (B i : Nat) (hi : i ≤ 9) (W : World) : (Instr.sliceAt 80 (.pointer (some ⟨B, 0, none⟩)) none (some (.int .i64 ((i : Int) + 1))) none).run Try.prog W = .ok (.slice (some ⟨B, 0, none⟩) (i + 1) 10) W := by
  have h10 : Try.prog.arrayLen 80 = 10 := by kernel_rfl
  have hel : Try.prog.elem 80 = 5 := by kernel_rfl
  have hsz : (sizeOf 5).run Try.prog W = .ok 1 W := by kernel_rfl
  rw [run_sliceAt_array_h W 80 ⟨B, 0, none⟩ (by kernel_rfl) .i64 ((i : Int) + 1) (by omega) (by rw [h10]; omega), hel, hsz]
  simp [Result.andThen, slicedAt, h10, Addr.add]

def cellsOf (pre : List Nat) : Array Value := ((pre ++ List.replicate (10 - pre.length) 0).map fun (n : Nat) => Value.int .u8 (n : Int)).toArray
theorem cell_at {W : World} {B : Nat} {pre : List Nat} {t : TypeId} (h : W.heap[B]? = some (.cells (cellsOf pre) t (0, 0))) (j : Nat) (hj : j < 10) (hp : pre.length ≤ 10) : W.cell? ⟨B, j, none⟩ = some (.int .u8 (((pre ++ List.replicate (10 - pre.length) 0).getD j 0 : Nat) : Int)) := by
  have hl : j < (pre ++ List.replicate (10 - pre.length) 0).length := by simp; omega
  refine (blk_cell h j).trans ?_
  simp only [cellsOf, List.getElem?_toArray, List.getElem?_map, List.getD_eq_getElem?_getD, List.getElem?_eq_getElem hl]
  rfl
theorem next_cells {W : World} {B : Nat} {pre : List Nat} {t : TypeId} (h : W.heap[B]? = some (.cells (cellsOf pre) t (0, 0))) (hp : pre.length ≤ 9) (y : Nat) : (W.setCell ⟨B, pre.length, none⟩ (.int .u8 (y : Int))).heap[B]? = some (.cells (cellsOf (pre ++ [y])) t (0, 0)) := by
  have e : cellsOf (pre ++ [y]) = (cellsOf pre).setIfInBounds pre.length (.int .u8 (y : Int)) := by
    unfold cellsOf
    apply Array.toList_inj.1
    rw [Array.toList_setIfInBounds]
    simp only [List.length_append, List.length_singleton]
    rw [show 10 - pre.length = (10 - (pre.length + 1)) + 1 by omega, List.replicate_succ]
    simp [List.set_append]
  rw [e]
  exact blk_set h pre.length _

theorem or128 : ∀ x, x < 256 → x ||| 128 = x % 128 + 128 := by decide +kernel

set_option maxRecDepth 100000 in
set_option maxHeartbeats 2000000 in
theorem uv_calls (v : Nat) (w : World) (h1 : v ≤ 18446744073709551615) : Calls Try.prog 22 #[.int .u64 v] w fun e w' => e = .returned (.string (uvb v)) ∧ Below w.heap.size w w' := by
  have HB := Aside0.mk (Below.refl w.heap.size w)
  go_enter Try.func22, Try.ntmps22
  go_wp2
  go_loopg [0, 4] 10 (fun kq v0 v4 w' => ∃ (x i : Nat) (pre : List Nat), v0 = .int .u64 x ∧ v4 = .int .i64 i ∧ Aside0 (St v x i kq pre) ∧ Aside0 (w'.heap[w.heap.size]? = some (.cells (cellsOf pre) 80 (0, 0))) ∧ Aside0 (Below w.heap.size w w'))
  case atStart =>
    refine ⟨v, 0, [], rfl, rfl, ⟨⟨rfl, rfl, rfl, by simp; omega⟩⟩, ⟨?_⟩, ⟨below_alloc HB.out _⟩⟩
    exact heap_alloc_new w _
  case round =>
    obtain ⟨x, i, pre, rfl, rfl, HA, HC, HB⟩ := hrel
    have hi := HA.out.lt.1
    have hx : x ≤ 18446744073709551615 := by have := HA.out.lt.2; omega
    have hpl := HA.out.len
    have hcell : wr.cell? ⟨w.heap.size, i, none⟩ = some (.int .u8 0) := by
      rw [cell_at HC.out i (by omega) (by omega)]
      congr 2
      subst hpl
      rw [List.getD_eq_getElem?_getD, List.getElem?_append_right (Nat.le_refl _), Nat.sub_self, List.getElem?_replicate, if_pos (by omega)]
      rfl
    have hfr : wr.frozen? ⟨w.heap.size, i, none⟩ = false := blk_frozen HC.out i
    have HP := Aside0.mk hpl
    clear hpl
    by_cases hlt : 128 ≤ x
    · have c1 : decide ((128 : Int) ≤ (x : Int)) = true := decide_eq_true (by omega)
      go_wp2
      go_roundg (gk - 1)
      case rel =>
        have hor : Go.bits .or .u8 ((x : Int) % 256) 128 = ((x % 128 + 128 : Nat) : Int) := by
          rw [u8_or _ _ (by omega) (by omega) (by omega) (by omega)]
          have e : ((x : Int) % 256).toNat = x % 256 := by omega
          rw [e]
          have := or128 (x % 256) (by omega)
          rw [show (128 : Int).toNat = 128 from rfl, this, Nat.mod_mod_of_dvd x (by decide)]
        rw [hor]
        refine ⟨x / 128, i + 1, pre ++ [x % 128 + 128], by simp, by simp, ⟨(HA.out.next hlt).1⟩, ⟨?_⟩, ⟨below_set HB.out (by exact Nat.le_refl _)⟩⟩
        have := next_cells HC.out (by rw [HP.out]; omega) (x % 128 + 128)
        rw [HP.out] at this
        exact this
      case measure => have := (HA.out.next hlt).2; omega
    · have c1 : decide ((128 : Int) ≤ (x : Int)) = false := decide_eq_false (by omega)
      have hsl := run_slice10 w.heap.size i hi
      have hpre := HA.out.last hlt
      have HN := next_cells HC.out (by rw [HP.out]; omega) x
      rw [HP.out] at HN
      have hlen : (pre ++ [x]).length = i + 1 := by simp [HP.out]
      have hconv : (convert 54 9 (.slice (some ⟨w.heap.size, 0, none⟩) (i + 1) 10)).run Try.prog (wr.setCell ⟨w.heap.size, i, none⟩ (.int .u8 (x : Int))) = .ok (.string (uvb v)) (wr.setCell ⟨w.heap.size, i, none⟩ (.int .u8 (x : Int))) := by
        unfold uvb
        rw [← hpre]
        refine run_convert_bytes_arg _ 54 5 Try.underlying54 Try.underlying5 w.heap.size 0 (i + 1) 10 _ (by simp [HP.out]) (fun j hj => ?_) 9 Try.underlying9
        rw [Nat.zero_add, cell_at HN j (by omega) (by omega)]
        congr 2
        have hj2 : j < (pre ++ [x]).length := by omega
        rw [List.getD_eq_getElem?_getD, List.getElem?_append_left hj2, List.getD_eq_getElem?_getD, List.getElem?_map, List.getElem?_eq_getElem hj2]
        rfl
      clear hpre HN hlen
      go_wp2
      go_ret
      exact ⟨rfl, below_set HB.out (Nat.le_refl _)⟩

/-- bits.Uvarint, as a plain function. -/
def bits_Uvarint.f (a0 : Int) : Option ByteArray := if 0 ≤ a0 ∧ a0 ≤ 18446744073709551615 then some (uvb a0.toNat) else none
theorem bits_Uvarint.calls (a0 : Int) (r : ByteArray) (w : World) (h : bits_Uvarint.f a0 = some r) :
    Calls Try.prog 22 #[.int .u64 a0] w fun e w' => e = .returned (.string r) ∧ Below w.heap.size w w' := by
  unfold bits_Uvarint.f at h
  by_cases g : 0 ≤ a0 ∧ a0 ≤ 18446744073709551615
  · rw [if_pos g] at h
    obtain ⟨v, rfl⟩ := Int.eq_ofNat_of_zero_le g.1
    obtain rfl := Option.some.inj h
    exact uv_calls v w (by omega)
  · rw [if_neg g] at h
    cases h

end Go.Proofs.Ytlgagjgfenmfeaa.HUv
