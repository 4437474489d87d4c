/- A strings.Builder that the call itself has made, written and read: what WriteString, WriteByte and String leave. -/
import Derived.Shelf.Strings.Builder1
import Derived.Shelf.Strings.BuilderF
import Derived.Shelf.Strings.BuilderK
import Derived.Lib.FrozenHead2
import Derived.Test.YtlgagjgfenmfeaaProg
import Derived.Test.YtlgagjgfenmfeaaShelf
import Derived.Test.YtlgagjgfenmfeaaHCore
import Derived.WalkKit
import Derived.KernelRfl
set_option linter.unusedVariables false
set_option linter.unusedSimpArgs false
namespace Go.Proofs.Ytlgagjgfenmfeaa.HBuild
open Go.RowKit Go.Proofs.YtlgagjgfenmfeaaW.PrintWords Go.Proofs.YtlgagjgfenmfeaaW.PrintLast Go.Proofs.Ytlgagjgfenmfeaa.HCore

/-- A builder in block b, one of the blocks that lie behind those of w0; it holds l. -/
structure Bld (w0 w : World) (b : Nat) (l : List UInt8) : Prop where
  below : Below w0.heap.size w0 w
  is : Lib.IsBuilderF 56 5 w0.heap.size b (Lib.byteCells l) w
theorem info_byte : (Try.prog.info? 5).map (fun i => (i.zero, i.size, i.bytes)) = some (some (.int .u8 0), 1, 1) := by kernel_rfl
theorem Bld.start {w0 w : World} (h : Below w0.heap.size w0 w) : Bld w0 (w.alloc (.cells #[.pointer none, .slice none 0 0] 56)) w.heap.size [] :=
  ⟨below_alloc h _, .inl ⟨h.size, _, heap_alloc_new _ _, World.ownsRowF_nil _ _ _ _, by simp [Value.ownBlock]⟩⟩
theorem Bld.drew {w0 w : World} {b : Nat} {l : List UInt8} (h : Bld w0 w b l) : Bld w0 w.drew b l := ⟨below_drew h.below, h.is⟩
theorem Bld.alloc {w0 w : World} {b : Nat} {l : List UInt8} (h : Bld w0 w b l) (o : Obj) : Bld w0 (w.alloc o) b l := ⟨h.below.alloc h.below.size o, h.is.alloc o⟩

set_option maxHeartbeats 1000000 in
set_option maxRecDepth 100000 in
theorem check_any (B b : Nat) (bs : List Value) (w : World) (h : Lib.IsBuilderF 56 5 B b bs w) :
    Calls Try.prog 39 #[.pointer (some ⟨b, 0, none⟩)] w fun e w' => e = .returned (.tuple #[]) ∧ Lib.BuilderAtF 56 5 B b (.pointer (some ⟨b, 0, none⟩)) bs w' ∧ Below B w w' ∧ Lib.OthersKept 5 (some b) w w' := by
  have hs : (Try.prog.info? 56).map (·.size) = some 2 := by kernel_rfl
  obtain ⟨j, hj, hjs⟩ := Option.map_eq_some_iff.1 hs
  rcases h with h | h
  · have h0 := h.cell0
    have hsh := h.shape
    have hfz := h.frozen0
    have H := Aside0.mk h
    clear h hs
    go_enter Try.func39, Try.ntmps39
    go_wp2
    rw [Lib.run_to_unsafe w ⟨b, 0, none⟩ Try.underlying53 Try.underlying93 hj (by rw [hjs]; decide) hsh (Nat.zero_lt_succ 1)]
    simp only [Result.andThen]
    rw [Oper.upon_value]
    go_wp2
    rw [run_callFunc_extern Try.func46 (by kernel_rfl) (by kernel_rfl) (by kernel_rfl) (e := Extern.AbiNoEscape.same) (by kernel_rfl), Lib.run_noEscape]
    simp only [Result.andThen]
    rw [Oper.upon_value]
    go_wp2
    rw [Lib.run_from_unsafe w ⟨b, 0, none⟩ Try.underlying93 Try.underlying53 hj hsh (by kernel_rfl)]
    simp only [Result.andThen]
    rw [Oper.upon_value]
    go_wp2
    go_end0
    exact ⟨rfl, H.out.used _, (Below.refl B w).setCell (p := ⟨b, 0, none⟩) H.out.1 _, (Lib.OthersKept.refl _ _ w).setCell ⟨b, 0, none⟩ rfl _⟩
  · have h0 := h.cell0
    have H := Aside0.mk h
    clear h hs hjs
    go_enter Try.func39, Try.ntmps39
    go_wp2
    rw [Lib.run_neq_ptr_same w _ Try.underlying53 hj]
    go_wp2
    go_end0
    exact ⟨rfl, H.out, Below.refl B _, Lib.OthersKept.refl _ _ _⟩

set_option maxHeartbeats 2000000 in
set_option maxRecDepth 100000 in
/-- WriteByte. -/
theorem byte_any (w0 w : World) (b : Nat) (l : List UInt8) (c : UInt8) (h : Bld w0 w b l) (hl : l.length + 1 ≤ 140737488355328) :
    Calls Try.prog 23 #[.pointer (some ⟨b, 0, none⟩), .int .u8 (c.toNat : Int)] w fun e w' => e = .returned .nilIface ∧ Bld w0 w' b (l ++ [c]) ∧ Lib.OthersKept 5 (some b) w w' := by
  obtain ⟨i0, hi, hz0, hz1, hz2⟩ := info_parts info_byte
  have HI := Aside0.mk h.is
  have HB := Aside0.mk h.below
  have HL : Aside0 ((Lib.byteCells l).length + 1 ≤ 140737488355328) := ⟨by rw [Lib.byteCells_length]; exact hl⟩
  clear h hl
  go_enter Try.func23, Try.ntmps23
  go_wp2_with (go_at_call 39; refine (check_any w0.heap.size b _ _ HI.out).mono ?_)
  rintro e w1 ⟨rfl, h1, hb1, hk1⟩
  have HK1 := Aside0.mk hk1
  clear hk1
  obtain ⟨hB, v, hbk, hown, hne⟩ := h1
  have HB1 := Aside0.mk (HB.out.trans hb1)
  have hs1 := hb1.size
  have c0 : w1.cell? ⟨b, 0, none⟩ = some (.pointer (some ⟨b, 0, none⟩)) := (blk_cell hbk 0).trans rfl
  have c1 : w1.cell? ⟨b, 1, none⟩ = some v := (blk_cell hbk 1).trans rfl
  have hlt := blk_lt hbk
  have HK := Aside0.mk hbk
  have HO := Aside0.mk hown
  have HN := Aside0.mk hne
  clear hb1 hbk hown hne
  go_wp2_with (at_builtin; refine wpList_append_ownF _ rfl _ _ 54 rfl w0.heap.size 5 i0 (.int .u8 0) 1 1 Try.underlying54 hi hz0 hz1 hz2 rfl (by decide) _ _ _ rfl (HO.out.alloc _) ⟨w1.heap.size, 0, none⟩ 1 1 [.int .u8 (c.toNat : Int)] rfl rfl ?c1 ?c2 ?c3 ?c4 ?c5 ?_)
  case c1 =>
    intro j u hj
    match j, hj with
    | 0, hj => simp at hj; subst hj; simp [Addr.add]
  case c2 => intro u hu; simp at hu; subst hu; rfl
  case c3 => have := HL.out; unfold maxLen; omega
  case c4 => have := HL.out; omega
  case c5 => have := HB1.out.size; simp; omega
  intro v' w2 hown' hgrow _
  have hb2 : w2.heap[b]? = some (.cells #[.pointer (some ⟨b, 0, none⟩), v] 56 (0, 0)) := by
    rw [hgrow.block b (by simp; omega) (fun e => HN.out e.symm), heap_alloc_old _ _ hlt]
    exact HK.out
  have d0 : w2.cell? ⟨b, 0, none⟩ = some (.pointer (some ⟨b, 0, none⟩)) := (blk_cell hb2 0).trans rfl
  have d1 : w2.cell? ⟨b, 1, none⟩ = some v := (blk_cell hb2 1).trans rfl
  have f1 : w2.frozen? ⟨b, 1, none⟩ = false := blk_frozen hb2 1
  obtain ⟨g, cap, rfl⟩ : ∃ g cap, v' = .slice (some ⟨g, 0, none⟩) ((Lib.byteCells l).length + 1) cap := by
    rcases hown'.2 with ⟨_, h0⟩ | ⟨g, cap, cur, fz, hv, _⟩
    · exact absurd h0 (by simp)
    · exact ⟨g, cap, hv⟩
  have H2 := Aside0.mk hb2
  have HO2 := Aside0.mk hown'
  have HG := Aside0.mk hgrow
  clear hb2 hown' hgrow
  go_wp2
  go_ret
  refine ⟨rfl, ⟨((HB1.out.alloc HB1.out.size _).grown HG.out (by have := HB1.out.size; simp; omega) (fun k hk => (HO.out.lt k hk).1)).setCell (p := ⟨b, 1, none⟩) hB _, .inr ?_⟩, ((HK1.out.alloc _).grown HG.out (Lib.ownsRowF_kind (HO.out.alloc _))).setCell ⟨b, 1, none⟩ rfl _⟩
  have e : Lib.byteCells (l ++ [c]) = Lib.byteCells l ++ [.int .u8 (c.toNat : Int)] := by simp [Lib.byteCells]
  rw [e]
  exact Lib.BuilderAtF.put (T := 56) (e := 5) hB H2.out (bs' := Lib.byteCells l ++ [.int .u8 (c.toNat : Int)]) (by simpa using HO2.out) (by decide)

set_option maxHeartbeats 2000000 in
set_option maxRecDepth 100000 in
/-- WriteString. -/
theorem string_any (w0 w : World) (b : Nat) (l : List UInt8) (s : ByteArray) (h : Bld w0 w b l) (hl : l.length + s.size ≤ 140737488355328) :
    Calls Try.prog 21 #[.pointer (some ⟨b, 0, none⟩), .string s] w fun e w' => e = .returned (.tuple #[.int .i64 s.size, .nilIface]) ∧ Bld w0 w' b (l ++ s.data.toList) ∧ Lib.OthersKept 5 (some b) w w' := by
  obtain ⟨i0, hi, hz0, hz1, hz2⟩ := info_parts info_byte
  have HI := Aside0.mk h.is
  have HB := Aside0.mk h.below
  have HL : Aside0 ((Lib.byteCells l).length + s.size ≤ 140737488355328) := ⟨by rw [Lib.byteCells_length]; exact hl⟩
  clear h hl
  go_enter Try.func21, Try.ntmps21
  go_wp2_with (go_at_call 39; refine (check_any w0.heap.size b _ _ HI.out).mono ?_)
  rintro e w1 ⟨rfl, h1, hb1, hk1⟩
  have HK1 := Aside0.mk hk1
  clear hk1
  obtain ⟨hB, v, hbk, hown, hne⟩ := h1
  have HB1 := Aside0.mk (HB.out.trans hb1)
  have c0 : w1.cell? ⟨b, 0, none⟩ = some (.pointer (some ⟨b, 0, none⟩)) := (blk_cell hbk 0).trans rfl
  have c1 : w1.cell? ⟨b, 1, none⟩ = some v := (blk_cell hbk 1).trans rfl
  have hlt := blk_lt hbk
  have HK := Aside0.mk hbk
  have HO := Aside0.mk hown
  have HN := Aside0.mk hne
  clear hb1 hbk hown hne
  go_wp2_with (at_builtin; refine Lib.wpList_append_own_stringF _ rfl _ _ 54 9 rfl w0.heap.size 5 i0 Try.underlying54 Try.underlying9 hi hz0 hz1 hz2 _ _ _ rfl HO.out s rfl ?c3 ?c4 ?c5 ?_)
  case c3 => have := HL.out; unfold maxLen; omega
  case c4 => have := HL.out; omega
  case c5 => exact HB1.out.size
  intro v' w2 hown' hgrow _
  have hb2 : w2.heap[b]? = some (.cells #[.pointer (some ⟨b, 0, none⟩), v] 56 (0, 0)) := by
    rw [hgrow.block b hlt (fun e => HN.out e.symm)]
    exact HK.out
  have d0 : w2.cell? ⟨b, 0, none⟩ = some (.pointer (some ⟨b, 0, none⟩)) := (blk_cell hb2 0).trans rfl
  have d1 : w2.cell? ⟨b, 1, none⟩ = some v := (blk_cell hb2 1).trans rfl
  have f1 : w2.frozen? ⟨b, 1, none⟩ = false := blk_frozen hb2 1
  obtain ⟨ao, n', cap, rfl⟩ : ∃ ao n' cap, v' = .slice ao n' cap := by
    rcases hown'.2 with ⟨hv, _⟩ | ⟨g, cap, cur, fz, hv, _⟩
    · exact ⟨_, _, _, hv⟩
    · exact ⟨_, _, _, hv⟩
  have H2 := Aside0.mk hb2
  have HO2 := Aside0.mk hown'
  have HG := Aside0.mk hgrow
  clear hb2 hown' hgrow
  go_wp2
  go_ret2
  refine ⟨rfl, ⟨(HB1.out.grown HG.out HB1.out.size (fun k hk => (HO.out.lt k hk).1)).setCell (p := ⟨b, 1, none⟩) hB _, .inr ?_⟩, (HK1.out.grown HG.out (Lib.ownsRowF_kind HO.out)).setCell ⟨b, 1, none⟩ rfl _⟩
  have e : Lib.byteCells (l ++ s.data.toList) = Lib.byteCells l ++ Lib.strCells s := by rw [Lib.strCells_eq]; simp [Lib.byteCells]
  rw [e]
  exact Lib.BuilderAtF.put (T := 56) (e := 5) hB H2.out (bs' := Lib.byteCells l ++ Lib.strCells s) (by simpa [Lib.strCells_length] using HO2.out) (by decide)

/-- String. -/
theorem text_any (w0 w : World) (b : Nat) (l : List UInt8) (h : Bld w0 w b l) :
    Calls Try.prog 25 #[.pointer (some ⟨b, 0, none⟩)] w fun e w' => e = .returned (.string ⟨l.toArray⟩) ∧ Bld w0 w' b l ∧ Lib.OthersKept 5 (some b) w w' := by
  refine (Try.Builder_String_any_k w0.heap.size b l w h.is h.below.size).mono ?_
  rintro e w' ⟨rfl, hi, hb, hk⟩
  exact ⟨rfl, ⟨h.below.trans hb, hi⟩, hk⟩
/-- A block of another kind stays. -/
theorem kept {w w' : World} {b k t : Nat} {cs : Array Value} {fz : Nat × Nat} (h : Lib.OthersKept 5 (some b) w w') (hk : w.heap[k]? = some (.cells cs t fz)) (hb : k ≠ b) (ht : t ≠ 5) : w'.heap[k]? = some (.cells cs t fz) :=
  h k _ hk (fun e => hb (Option.some.inj e)) (fun c f e => ht (by injection e))
theorem Bld.lt {w0 w : World} {b : Nat} {l : List UInt8} (h : Bld w0 w b l) : b < w.heap.size ∧ w0.heap.size ≤ b := by
  rcases h.is with h | h
  · exact ⟨h.lt, h.1⟩
  · exact ⟨h.lt, h.1⟩
theorem Bld.grown {w0 w w' : World} {b : Nat} {l : List UInt8} (h : Bld w0 w b l) (hb : Below w.heap.size w w') : Bld w0 w' b l := by
  refine ⟨below_then h.below h.below.size hb, ?_⟩
  rcases h.is with ⟨hB, v, hk, ho, hn⟩ | ⟨hB, v, hk, ho, hn⟩
  · exact .inl ⟨hB, v, (hb.block _ (blk_lt hk)).trans hk, ho.kept (grown_of_below hb none) (by cases v.ownBlock <;> simp), hn⟩
  · exact .inr ⟨hB, v, (hb.block _ (blk_lt hk)).trans hk, ho.kept (grown_of_below hb none) (by cases v.ownBlock <;> simp), hn⟩
end Go.Proofs.Ytlgagjgfenmfeaa.HBuild
