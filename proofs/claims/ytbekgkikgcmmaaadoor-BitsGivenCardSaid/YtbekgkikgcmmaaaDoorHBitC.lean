/- The columns of a row: a kind's three functions; what a reader reads of a column. -/
import Derived.Test.YtbekgkikgcmmaaaDoorHBitK
import Derived.Laws.EntriesVeiled
set_option linter.unusedVariables false
set_option linter.unusedSimpArgs false
namespace Go.Proofs.YtbekgkikgcmmaaaDoor.HBitC
open Go.RowKit Go.Proofs.YtbekgkikgcmmaaaDoor.PBit Go.Proofs.YtbekgkikgcmmaaaDoor.HBase Go.Proofs.YtbekgkikgcmmaaaDoorW.PrintWords Go.Proofs.YtbekgkikgcmmaaaDoorW.PrintLast Go.Proofs.YtbekgkikgcmmaaaDoorW.PrintMore Go.Proofs.YtbekgkikgcmmaaaDoor.HCore Go.Proofs.YtbekgkikgcmmaaaDoor.HBitR Go.Proofs.YtbekgkikgcmmaaaDoor.HBitV Go.Proofs.YtbekgkikgcmmaaaDoor.HBitG Go.Proofs.YtbekgkikgcmmaaaDoor.HBitK

abbrev fv (n : Nat) : Value := .func (.func n) #[] #[]
/-- A kind's three functions. -/
def codV (k : Int) : Value := if k = 0 then .agg #[fv 44, fv 45, fv 46] else if k = 1 then .agg #[fv 47, fv 48, fv 49] else if k = 2 then .agg #[fv 51, fv 52, fv 54] else .agg #[fv 56, fv 57, fv 58]
theorem cod_ret {fn : Func} {R : Ending → World → Prop} {a : Act} {w : World} {t b : Nat} {x y z : Value} (hfn : fn.results = #[.cell t 56]) (ha : a.tmps.getD t undef = .pointer (some ⟨b, 0, none⟩))
    (hb : w.heap[b]? = some (.cells #[x, y, z] 56 (0, 0))) (hd : a.defers = []) (h : R (.returned (.agg #[x, y, z])) w) : bodyPost Tryd.prog fn R .ret a w :=
  bodyPost_ret (results_c1 hfn _ _ b 56 _ (0, 0) _ ha hb Tryd.underlying56 rfl (by kernel_rfl)) hd h
theorem put3v {w : World} {b : Nat} {t : TypeId} {x y z : Value} (h : w.heap[b]? = some (.cells #[x, y, z] t (0, 0))) (u v r : Value) : (((w.setCell ⟨b, 0, none⟩ u).setCell ⟨b, 1, none⟩ v).setCell ⟨b, 2, none⟩ r).heap[b]? = some (.cells #[u, v, r] t (0, 0)) :=
  (blk_set ((blk_set ((blk_set h 0 _).trans rfl) 1 _).trans rfl) 2 _).trans rfl
theorem put3v_below {w w0 : World} {b B : Nat} (h : Below B w0 w) (hb : B ≤ b) (u v r : Value) : Below B w0 (((w.setCell ⟨b, 0, none⟩ u).setCell ⟨b, 1, none⟩ v).setCell ⟨b, 2, none⟩ r) :=
  ((h.setCell (p := ⟨b, 0, none⟩) hb _).setCell (p := ⟨b, 1, none⟩) hb _).setCell (p := ⟨b, 2, none⟩) hb _
set_option maxRecDepth 100000 in
set_option maxHeartbeats 1000000 in
theorem codecs_is (k : Int) (hk : 0 ≤ k ∧ k ≤ 3) (w : World) : Calls Tryd.prog 27 #[.int .i64 k] w fun e w' => e = .returned (codV k) ∧ Below w.heap.size w w' := by
  have hg := heap_alloc_new w (.cells #[.nilFunc, .nilFunc, .nilFunc] 56)
  have h4 : k = 0 ∨ k = 1 ∨ k = 2 ∨ k = 3 := by omega
  have c0 : _ = some Value.nilFunc := (blk_cell hg 0).trans rfl
  have c1 : _ = some Value.nilFunc := (blk_cell hg 1).trans rfl
  have c2 : _ = some Value.nilFunc := (blk_cell hg 2).trans rfl
  have f0 := blk_frozen hg 0
  have f1 := blk_frozen hg 1
  have f2 := blk_frozen hg 2
  have HG := Aside0.mk hg
  clear hg hk
  rcases h4 with rfl | rfl | rfl | rfl
  · go_enter Tryd.func27, Tryd.ntmps27
    go_wp2_with fail
    exact cod_ret (t := 2) (b := w.heap.size) (x := fv 44) (y := fv 45) (z := fv 46) rfl rfl (heap_alloc_new _ _) rfl ⟨rfl, below_alloc (Below.refl _ _) _⟩
  · go_enter Tryd.func27, Tryd.ntmps27
    go_wp2_with fail
    exact cod_ret (t := 2) (b := w.heap.size) (x := fv 47) (y := fv 48) (z := fv 49) rfl rfl (heap_alloc_new _ _) rfl ⟨rfl, below_alloc (Below.refl _ _) _⟩
  · go_enter Tryd.func27, Tryd.ntmps27
    go_wp2_with fail
    exact cod_ret (t := 2) (b := w.heap.size) (x := fv 51) (y := fv 52) (z := fv 54) rfl rfl (heap_alloc_new _ _) rfl ⟨rfl, below_alloc (Below.refl _ _) _⟩
  · go_enter Tryd.func27, Tryd.ntmps27
    go_wp2_with fail
    exact cod_ret (t := 2) (b := w.heap.size) (x := fv 56) (y := fv 57) (z := fv 58) rfl rfl (heap_alloc_new _ _) rfl ⟨rfl, below_alloc (Below.refl _ _) _⟩
set_option maxRecDepth 100000 in
set_option maxHeartbeats 1000000 in
theorem back0 (g : Nat) (s : ByteArray) (p : Int) (w : World) (h : w.heap[g]? = some (Rd s p)) :
    Calls Tryd.prog 46 #[.pointer (some ⟨g, 0, none⟩)] w fun e w' => LeftV g s w z33 p 0 e w' := by
  have HV := Aside0.mk (Vs.start h)
  clear h
  unfold LeftV
  go_enter Tryd.func46, Tryd.ntmps46
  obtain ⟨⟨y0, y1, y2⟩, ⟨f0, f1, f2⟩, _⟩ := HV.out.c
  go_wp2_with fail
  exact val_ret (t := 2) (b := w.heap.size) (x := z33) rfl rfl HV.out.res rfl ⟨HV.out.turn, Or.inl ⟨trivial, rfl, HV.out.rdr⟩⟩
/-- What a reader reads of a column of a kind. -/
def rdC (s : ByteArray) (p k : Int) : S33 × Int × Int :=
  if k = 0 then (z33, p, 0) else
  if k = 1 then (if p < (s.size : Int) then (if bt s p ≤ 1 then (⟨1, bt s p, (⟨#[]⟩ : ByteArray)⟩, p + 1, 0) else (z33, 0, 14)) else (z33, 0, 11)) else
  if k = 2 then (⟨2, (rsv s p).1, (⟨#[]⟩ : ByteArray)⟩, (rsv s p).2) else (⟨3, 0, (rtext s p 4096).1⟩, (rtext s p 4096).2)
set_option maxRecDepth 100000 in
set_option maxHeartbeats 1000000 in
theorem back1 (g : Nat) (s : ByteArray) (p : Int) (w : World) (x : S33) (q e0 : Int) (h : w.heap[g]? = some (Rd s p))
    (hI : ∀ w : World, w.heap[g]? = some (Rd s p) → Calls Tryd.prog 50 #[.pointer (some ⟨g, 0, none⟩)] w fun e w' => LeftV g s w x q e0 e w') :
    Calls Tryd.prog 49 #[.pointer (some ⟨g, 0, none⟩)] w fun e w' => LeftV g s w x q e0 e w' := by
  have HV := Aside0.mk (Vs.start h)
  have HI := Aside0.mk (hI _ HV.out.rdr)
  clear h hI
  unfold LeftV
  go_enter Tryd.func49, Tryd.ntmps49
  go_wp2_with fail
  refine HI.out.mono ?_
  rintro e w2 ⟨ht, hh⟩
  rcases hh with ⟨h0, rfl, hg⟩ | ⟨hne, he⟩
  · have HV := Aside0.mk (HV.out.reads ht hg)
    have H0 := Aside0.mk h0
    clear ht hg h0
    obtain ⟨⟨y0, y1, y2⟩, ⟨f0, f1, f2⟩, _⟩ := HV.out.c
    go_wp2_with fail
    exact val_ret (t := 2) (b := w.heap.size) (x := x) rfl rfl (put3_heap HV.out.res x) rfl ⟨(HV.out.put x).1, Or.inl ⟨H0.out, rfl, (HV.out.put x).2⟩⟩
  · have HN := Aside0.mk hne
    have HT := Aside0.mk (HV.out.turn.trans ht)
    unfold gives at he
    subst he
    clear ht hne
    go_wp2
    exact ⟨rfl, HT.out, Or.inr ⟨HN.out, rfl⟩⟩
set_option maxRecDepth 100000 in
set_option maxHeartbeats 1000000 in
theorem back2 (g : Nat) (s : ByteArray) (p : Int) (w : World) (x : S33) (q e0 : Int) (h : w.heap[g]? = some (Rd s p))
    (hI : ∀ w : World, w.heap[g]? = some (Rd s p) → Calls Tryd.prog 55 #[.pointer (some ⟨g, 0, none⟩)] w fun e w' => LeftV g s w x q e0 e w') :
    Calls Tryd.prog 54 #[.pointer (some ⟨g, 0, none⟩)] w fun e w' => LeftV g s w x q e0 e w' := by
  have HV := Aside0.mk (Vs.start h)
  have HI := Aside0.mk (hI _ HV.out.rdr)
  clear h hI
  unfold LeftV
  go_enter Tryd.func54, Tryd.ntmps54
  go_wp2_with fail
  refine HI.out.mono ?_
  rintro e w2 ⟨ht, hh⟩
  rcases hh with ⟨h0, rfl, hg⟩ | ⟨hne, he⟩
  · have HV := Aside0.mk (HV.out.reads ht hg)
    have H0 := Aside0.mk h0
    clear ht hg h0
    obtain ⟨⟨y0, y1, y2⟩, ⟨f0, f1, f2⟩, _⟩ := HV.out.c
    go_wp2_with fail
    exact val_ret (t := 2) (b := w.heap.size) (x := x) rfl rfl (put3_heap HV.out.res x) rfl ⟨(HV.out.put x).1, Or.inl ⟨H0.out, rfl, (HV.out.put x).2⟩⟩
  · have HN := Aside0.mk hne
    have HT := Aside0.mk (HV.out.turn.trans ht)
    unfold gives at he
    subst he
    clear ht hne
    go_wp2
    exact ⟨rfl, HT.out, Or.inr ⟨HN.out, rfl⟩⟩
set_option maxRecDepth 100000 in
set_option maxHeartbeats 1000000 in
theorem back3 (g : Nat) (s : ByteArray) (p : Int) (w : World) (x : S33) (q e0 : Int) (h : w.heap[g]? = some (Rd s p))
    (hI : ∀ w : World, w.heap[g]? = some (Rd s p) → Calls Tryd.prog 59 #[.pointer (some ⟨g, 0, none⟩)] w fun e w' => LeftV g s w x q e0 e w') :
    Calls Tryd.prog 58 #[.pointer (some ⟨g, 0, none⟩)] w fun e w' => LeftV g s w x q e0 e w' := by
  have HV := Aside0.mk (Vs.start h)
  have HI := Aside0.mk (hI _ HV.out.rdr)
  clear h hI
  unfold LeftV
  go_enter Tryd.func58, Tryd.ntmps58
  go_wp2_with fail
  refine HI.out.mono ?_
  rintro e w2 ⟨ht, hh⟩
  rcases hh with ⟨h0, rfl, hg⟩ | ⟨hne, he⟩
  · have HV := Aside0.mk (HV.out.reads ht hg)
    have H0 := Aside0.mk h0
    clear ht hg h0
    obtain ⟨⟨y0, y1, y2⟩, ⟨f0, f1, f2⟩, _⟩ := HV.out.c
    go_wp2_with fail
    exact val_ret (t := 2) (b := w.heap.size) (x := x) rfl rfl (put3_heap HV.out.res x) rfl ⟨(HV.out.put x).1, Or.inl ⟨H0.out, rfl, (HV.out.put x).2⟩⟩
  · have HN := Aside0.mk hne
    have HT := Aside0.mk (HV.out.turn.trans ht)
    unfold gives at he
    subst he
    clear ht hne
    go_wp2
    exact ⟨rfl, HT.out, Or.inr ⟨HN.out, rfl⟩⟩
end Go.Proofs.YtbekgkikgcmmaaaDoor.HBitC
