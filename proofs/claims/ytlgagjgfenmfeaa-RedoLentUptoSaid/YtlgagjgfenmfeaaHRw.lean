/- The document's readWrite: the write that begins at a place, and the place behind it; nothing that was there is changed. -/
import Derived.Test.YtlgagjgfenmfeaaHBase
import Derived.Laws.Rows
import Derived.Laws.Tables
import Derived.Laws.CopyOwn
set_option linter.unusedVariables false
set_option linter.unusedSimpArgs false
namespace Go.Proofs.Ytlgagjgfenmfeaa.HRw
open Go.RowKit Go.Proofs.YtlgagjgfenmfeaaW.PrintWords Go.Proofs.YtlgagjgfenmfeaaW.PrintLast Go.Proofs.YtlgagjgfenmfeaaW.PrintMore Go.Proofs.Ytlgagjgfenmfeaa.HCore Go.Proofs.Ytlgagjgfenmfeaa.HBase

/-- A write's three cells. -/
def wcells (a : Int) (b c : ByteArray) : Array Value := #[.int .i64 a, .string b, .string c]
/-- The result's place and the write, in two new blocks. -/
structure Wr (w wr : World) (r x : Array Value) : Prop where
  below : Below w.heap.size w wr
  res : wr.heap[w.heap.size]? = some (.cells r 36 (0, 0))
  var : wr.heap[w.heap.size + 1]? = some (.cells x 36 (0, 0))
theorem Wr.start (w : World) (r x : Array Value) : Wr w ((w.alloc (.cells r 36)).alloc (.cells x 36)) r x := ⟨below_alloc (below_alloc (Below.refl _ _) _) _, heap_alloc2_old _ _ _, heap_alloc2_new _ _ _⟩
theorem Wr.grown {w wr w1 : World} {r x : Array Value} (h : Wr w wr r x) (hb : Below wr.heap.size wr w1) : Wr w w1 r x :=
  ⟨below_then h.below h.below.size hb, (hb.block _ (blk_lt h.res)).trans h.res, (hb.block _ (blk_lt h.var)).trans h.var⟩
theorem Wr.set {w wr : World} {r x : Array Value} (h : Wr w wr r x) (i : Nat) (v : Value) : Wr w (wr.setCell ⟨w.heap.size + 1, i, none⟩ v) r (x.setIfInBounds i v) :=
  ⟨h.below.setCell (by simp) _, blk_far h.res (by simp) _, blk_set h.var i v⟩
theorem Wr.put {w wr : World} {r x y : Array Value} (h : Wr w wr r x) : Wr w (wr.setRow w.heap.size y) y x :=
  ⟨below_setRow h.below (Nat.le_refl _) _, setRow_heap _ _ _ _ _ _ h.res, (setRow_other _ _ _ _ (by omega)).trans h.var⟩
theorem zero_w : (#[.int .i64 0, .string { data := #[] }, .string { data := #[] }] : Array Value) = wcells 0 (⟨#[]⟩ : ByteArray) (⟨#[]⟩ : ByteArray) := rfl
theorem Wr.read {w wr : World} {a a' : Int} {b c b' c' : ByteArray} (h : Wr w wr (wcells a b c) (wcells a' b' c')) : wr.cell? ⟨w.heap.size + 1, 0, none⟩ = some (.int .i64 a') ∧ wr.cell? ⟨w.heap.size + 1, 1, none⟩ = some (.string b') ∧ wr.cell? ⟨w.heap.size + 1, 2, none⟩ = some (.string c') :=
  ⟨(blk_cell h.var 0).trans rfl, (blk_cell h.var 1).trans rfl, (blk_cell h.var 2).trans rfl⟩
theorem Wr.free {w wr : World} {r x : Array Value} (h : Wr w wr r x) (i : Nat) : wr.frozen? ⟨w.heap.size, i, none⟩ = false ∧ wr.frozen? ⟨w.heap.size + 1, i, none⟩ = false := ⟨blk_frozen h.res i, blk_frozen h.var i⟩

theorem rb_f (s : ByteArray) (p : Int) (hs : s.size ≤ 4611686018427387904) : strataref01_ReadBlob.f s p = some ((rtext s p 1048576).1, (rtext s p 1048576).2.1, (rtext s p 1048576).2.2) := by
  unfold strataref01_ReadBlob.f
  rw [if_pos hs]

set_option maxRecDepth 100000 in
set_option maxHeartbeats 2000000 in
theorem rw_end (s : ByteArray) (p : Nat) (hp : ¬ p < s.size) (w : World) :
    Calls Try.prog 36 #[.string s, .int .i64 (p : Int)] w fun e w' => e = .returned (.tuple #[.agg (wcells 0 (⟨#[]⟩ : ByteArray) (⟨#[]⟩ : ByteArray)), .int .i64 (-1)]) ∧ Below w.heap.size w w' := by
  have hd : decide (s.size ≤ p) = true := decide_eq_true (by omega)
  have hd2 : decide ((s.size : Int) ≤ (p : Int)) = true := decide_eq_true (by omega)
  go_enter Try.func36, Try.ntmps36
  go_wp2
  refine bodyPost_ret (v := .tuple #[.agg (wcells 0 (⟨#[]⟩ : ByteArray) (⟨#[]⟩ : ByteArray)), .int .i64 (-1)]) (by simp [results, Try.results36, go_sem, wcells]) rfl ⟨rfl, ?_⟩
  repeat (first | exact Below.refl _ _ | refine below_alloc ?_ _ | refine Below.setCell ?_ (by simp) _)
set_option maxRecDepth 100000 in
set_option maxHeartbeats 4000000 in
theorem rw_in (s : ByteArray) (p : Nat) (hp : p < s.size) (hs : s.size ≤ 4611686018427387904) (w : World) (c : Int) (hc : wrap64 ((s[p]).toNat : Int) = c) (t1 t2 : ByteArray) (n1 n2 e1 e2 : Int)
    (h1 : strataref01_ReadBlob.f s ((p : Int) + 1) = some (t1, n1, e1)) (h2 : strataref01_ReadBlob.f s n1 = some (t2, n2, e2)) (r : Int × ByteArray × ByteArray × Int)
    (hr : r = if e1 ≠ 0 then (0, (⟨#[]⟩ : ByteArray), (⟨#[]⟩ : ByteArray), -1) else if c ≠ 1 then (c, t1, (⟨#[]⟩ : ByteArray), n1) else if e2 ≠ 0 then (0, (⟨#[]⟩ : ByteArray), (⟨#[]⟩ : ByteArray), -1) else (1, t1, t2, n2)) :
    Calls Try.prog 36 #[.string s, .int .i64 (p : Int)] w fun e w' => e = .returned (.tuple #[.agg (wcells r.1 r.2.1 r.2.2.1), .int .i64 r.2.2.2]) ∧ Below w.heap.size w w' := by
  have H1 := Aside0.mk h1
  have H2 := Aside0.mk h2
  have HS := Aside0.mk (Wr.start w (wcells 0 (⟨#[]⟩ : ByteArray) (⟨#[]⟩ : ByteArray)) (wcells c (⟨#[]⟩ : ByteArray) (⟨#[]⟩ : ByteArray)))
  have HR := Aside0.mk hr
  clear h1 h2 hr
  have hd : decide (s.size ≤ p) = false := decide_eq_false (by omega)
  have hd2 : decide ((s.size : Int) ≤ (p : Int)) = false := decide_eq_false (by omega)
  go_enter Try.func36, Try.ntmps36
  go_wp2_with fail
  refine (strataref01_ReadBlob.calls s ((p : Int) + 1) t1 n1 e1 _ H1.out).mono ?_
  rintro e w2 ⟨rfl, hdr⟩
  have HW := Aside0.mk (HS.out.grown hdr.below)
  clear hdr HS
  by_cases he1 : e1 = 0
  · subst he1
    have hr1 := HW.out.read
    have hf1 := (HW.out.free 1).2
    obtain ⟨r0, r1, r2⟩ := hr1
    by_cases hc1 : c = 1
    · subst hc1
      go_wp2_with fail
      refine (strataref01_ReadBlob.calls s n1 t2 n2 e2 _ H2.out).mono ?_
      rintro e w3 ⟨rfl, hdr⟩
      have HW3 := Aside0.mk ((HW.out.set 1 (.string t1)).grown hdr.below)
      clear hdr hf1 r0 r1 r2
      by_cases he2 : e2 = 0
      · subst he2
        have HX := Aside0.mk (HW3.out.set 2 (.string t2))
        have hf2 := (HW3.out.free 2).2
        have hv2 : w3.cell? ⟨w.heap.size + 1, 2, none⟩ = some (.string (⟨#[]⟩ : ByteArray)) := (blk_cell HW3.out.var 2).trans rfl
        have HR2 : Aside0 (r = (1, t1, t2, n2)) := ⟨by rw [HR.out, if_neg (by simp), if_neg (by simp), if_neg (by simp)]⟩
        go_wp2_with (first | (refine wpList_load_row rfl 36 (.tmp 6) rfl _ rfl _ _ _ _ HX.out.var Try.underlying36 rfl (by kernel_rfl) ?_) | (refine wpList_store_row rfl 36 (.tmp 4) (.tmp 52) rfl _ _ rfl rfl _ _ HX.out.res (by kernel_rfl) rfl (by kernel_rfl) ?_))
        refine bodyPost_ret (v := .tuple #[.agg (wcells 1 t1 t2), .int .i64 n2]) (results_ct (fn := Try.f36) rfl _ _ _ 36 _ (0, 0) _ rfl (setRow_heap _ _ _ _ _ _ HX.out.res) Try.underlying36 rfl (by kernel_rfl)) rfl ⟨by rw [HR2.out], ?_⟩
        exact below_setRow HX.out.below (Nat.le_refl _) _
      · have b3 : (e2 != 0) = true := by simpa using he2
        have HR2 : Aside0 (r = (0, (⟨#[]⟩ : ByteArray), (⟨#[]⟩ : ByteArray), -1)) := ⟨by rw [HR.out, if_neg (by simp), if_neg (by simp), if_pos he2]⟩
        clear he2
        go_wp2_with (refine wpList_store_row rfl 36 (.tmp 4) (.tmp 48) rfl _ _ rfl rfl _ _ HW3.out.res (by kernel_rfl) rfl (by kernel_rfl) ?_)
        refine bodyPost_ret (v := .tuple #[.agg (wcells 0 (⟨#[]⟩ : ByteArray) (⟨#[]⟩ : ByteArray)), .int .i64 (-1)]) (results_ct (fn := Try.f36) rfl _ _ _ 36 _ (0, 0) _ rfl (setRow_heap _ _ _ _ _ _ HW3.out.res) Try.underlying36 rfl (by kernel_rfl)) rfl ⟨by rw [HR2.out], ?_⟩
        exact below_setRow HW3.out.below (Nat.le_refl _) _
    · have b2 : (c == 1) = false := by simpa using hc1
      have HX := Aside0.mk (HW.out.set 1 (.string t1))
      have HR2 : Aside0 (r = (c, t1, (⟨#[]⟩ : ByteArray), n1)) := ⟨by rw [HR.out, if_neg (by simp), if_pos hc1]⟩
      clear hc1
      go_wp2_with (first | (refine wpList_load_row rfl 36 (.tmp 6) rfl _ rfl _ _ _ _ HX.out.var Try.underlying36 rfl (by kernel_rfl) ?_) | (refine wpList_store_row rfl 36 (.tmp 4) (.tmp 52) rfl _ _ rfl rfl _ _ HX.out.res (by kernel_rfl) rfl (by kernel_rfl) ?_))
      refine bodyPost_ret (v := .tuple #[.agg (wcells c t1 (⟨#[]⟩ : ByteArray)), .int .i64 n1]) (results_ct (fn := Try.f36) rfl _ _ _ 36 _ (0, 0) _ rfl (setRow_heap _ _ _ _ _ _ HX.out.res) Try.underlying36 rfl (by kernel_rfl)) rfl ⟨by rw [HR2.out], ?_⟩
      exact below_setRow HX.out.below (Nat.le_refl _) _
  · have b1 : (e1 != 0) = true := by simpa using he1
    have HR2 : Aside0 (r = (0, (⟨#[]⟩ : ByteArray), (⟨#[]⟩ : ByteArray), -1)) := ⟨by rw [HR.out, if_pos he1]⟩
    clear he1
    go_wp2_with (refine wpList_store_row rfl 36 (.tmp 4) (.tmp 33) rfl _ _ rfl rfl _ _ HW.out.res (by kernel_rfl) rfl (by kernel_rfl) ?_)
    refine bodyPost_ret (v := .tuple #[.agg (wcells 0 (⟨#[]⟩ : ByteArray) (⟨#[]⟩ : ByteArray)), .int .i64 (-1)]) (results_ct (fn := Try.f36) rfl _ _ _ 36 _ (0, 0) _ rfl (setRow_heap _ _ _ _ _ _ HW.out.res) Try.underlying36 rfl (by kernel_rfl)) rfl ⟨by rw [HR2.out], ?_⟩
    exact below_setRow HW.out.below (Nat.le_refl _) _

theorem of_printed (a0 : ByteArray) (a1 : Int) (r1 : Int) (r2 : ByteArray) (r3 : ByteArray) (r4 : Int) (w : World)
    (h : (if a1 ≥ (a0.size : Int) then (some (0, (⟨#[]⟩ : ByteArray), (⟨#[]⟩ : ByteArray), (-1))) else (if 0 ≤ a1 then (if a1 < (a0.size : Int) then ((strataref01_ReadBlob.f a0 (wrap64 (a1 + 1))).bind fun bt135 => (if bt135.2.2 = 0 then (if (wrap64 (bt a0 a1)) = 1 then ((strataref01_ReadBlob.f a0 bt135.2.1).bind fun bt138 => (if bt138.2.2 = 0 then (some (wrap64 (bt a0 a1), bt135.1, bt138.1, bt138.2.1)) else (some (0, (⟨#[]⟩ : ByteArray), (⟨#[]⟩ : ByteArray), (-1))))) else (some (wrap64 (bt a0 a1), bt135.1, (⟨#[]⟩ : ByteArray), bt135.2.1))) else (some (0, (⟨#[]⟩ : ByteArray), (⟨#[]⟩ : ByteArray), (-1))))) else (none)) else (none))) = some (r1, r2, r3, r4)) :
    Calls Try.prog 36 #[.string a0, .int .i64 a1] w fun e w' => e = .returned (.tuple #[.agg #[.int .i64 r1, .string r2, .string r3], .int .i64 r4]) ∧ Below w.heap.size w w' := by
  by_cases hge : a1 ≥ (a0.size : Int)
  · rw [if_pos hge] at h
    simp only [Option.some.injEq, Prod.mk.injEq] at h
    obtain ⟨rfl, rfl, rfl, rfl⟩ := h
    obtain ⟨p, rfl⟩ := Int.eq_ofNat_of_zero_le (show 0 ≤ a1 by omega)
    exact rw_end a0 p (by omega) w
  rw [if_neg hge] at h
  by_cases h0 : 0 ≤ a1
  · rw [if_pos h0, if_pos (by omega)] at h
    obtain ⟨p, rfl⟩ := Int.eq_ofNat_of_zero_le h0
    have hp : p < a0.size := by omega
    obtain ⟨⟨t1, n1, e1⟩, hb1, h⟩ := Option.bind_eq_some_iff.mp h
    have hs : a0.size ≤ 4611686018427387904 := by
      apply Classical.byContradiction
      intro hn
      unfold strataref01_ReadBlob.f at hb1
      rw [if_neg hn] at hb1
      cases hb1
    rw [w64 (by omega) (by omega)] at hb1
    have hbt : wrap64 ((a0[p]).toNat : Int) = wrap64 (bt a0 (p : Int)) := by
      have e : bt a0 (p : Int) = ((a0[p]).toNat : Int) := by
        unfold bt
        rw [dif_pos (by simpa using hp)]
        rfl
      rw [e]
    exact rw_in a0 p hp hs w _ hbt t1 _ n1 _ e1 _ hb1 (rb_f a0 n1 hs) (r1, r2, r3, r4) (by
      simp only at h
      by_cases x1 : e1 = 0
      · rw [if_pos x1] at h
        rw [if_neg (by simpa using x1)]
        by_cases x2 : wrap64 (bt a0 (p : Int)) = 1
        · rw [if_pos x2, rb_f a0 n1 hs] at h
          rw [if_neg (by simpa using x2)]
          simp only [Option.bind_some] at h
          by_cases x3 : (rtext a0 n1 1048576).2.2 = 0
          · rw [if_pos x3] at h
            rw [if_neg (by simpa using x3), ← x2]
            exact (Option.some.inj h).symm
          · rw [if_neg x3] at h
            rw [if_pos x3]
            exact (Option.some.inj h).symm
        · rw [if_neg x2] at h
          rw [if_pos x2]
          exact (Option.some.inj h).symm
      · rw [if_neg x1] at h
        rw [if_pos x1]
        exact (Option.some.inj h).symm)
  · rw [if_neg h0] at h
    cases h
end Go.Proofs.Ytlgagjgfenmfeaa.HRw
