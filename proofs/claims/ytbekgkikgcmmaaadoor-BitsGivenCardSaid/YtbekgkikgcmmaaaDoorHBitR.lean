/- A reader of layer 1 that gives up by panic with an error number: a fault, the byte that comes, a truth, a number, a text. -/
import Derived.Test.YtbekgkikgcmmaaaDoorHBase
import Derived.Test.YtbekgkikgcmmaaaDoorPBitx0
import Derived.Tactics2
import Derived.Deep.QuietTactic
import Derived.BigQuiet
import Derived.StillTailTactics
import Derived.WalkLawsBesides
import Derived.IntWalk
import Derived.Deep.LoopGhost
set_option linter.unusedVariables false
set_option linter.unusedSimpArgs false
namespace Go.Proofs.YtbekgkikgcmmaaaDoor.HBitR
open Go.RowKit Go.Proofs.YtbekgkikgcmmaaaDoor.PBit Go.Proofs.YtbekgkikgcmmaaaDoor.HBase Go.Proofs.YtbekgkikgcmmaaaDoorW.PrintWords Go.Proofs.YtbekgkikgcmmaaaDoorW.PrintLast Go.Proofs.YtbekgkikgcmmaaaDoorW.PrintMore Go.Proofs.YtbekgkikgcmmaaaDoor.HCore

/-- One block alone has been written. -/
structure Turn (g : Nat) (w w' : World) : Prop where
  os : w'.os = w.os
  tape : w'.tape = w.tape
  output : w'.output = w.output
  size : w.heap.size ≤ w'.heap.size
  block : ∀ k, k < w.heap.size → k ≠ g → w'.heap[k]? = w.heap[k]?
theorem Turn.refl (g : Nat) (w : World) : Turn g w w := ⟨rfl, rfl, rfl, Nat.le_refl _, fun _ _ _ => rfl⟩
theorem Turn.trans {g : Nat} {a b c : World} (h : Turn g a b) (k : Turn g b c) : Turn g a c :=
  ⟨k.os.trans h.os, k.tape.trans h.tape, k.output.trans h.output, Nat.le_trans h.size k.size, fun i hi hg => (k.block i (Nat.lt_of_lt_of_le hi h.size) hg).trans (h.block i hi hg)⟩
theorem Turn.of_below {g : Nat} {w w' : World} (h : Below w.heap.size w w') : Turn g w w' := ⟨h.os, h.tape, h.output, h.size, fun k hk _ => h.block k hk⟩
theorem Turn.drewN (g : Nat) (w : World) (n : Nat) : Turn g w (w.drewN n) := ⟨rfl, rfl, rfl, Nat.le_refl _, fun _ _ _ => rfl⟩
theorem Turn.set (g : Nat) (w : World) (j : Nat) (u : Value) : Turn g w (w.setCell ⟨g, j, none⟩ u) := ⟨rfl, rfl, rfl, by simp [World.setCell], fun k _ hk => Below.heap_setCell _ _ _ _ hk⟩
theorem Turn.below {g B : Nat} {w0 w w' : World} (h : Turn g w w') (hb : Below B w0 w) (hB : B ≤ w.heap.size) (hg : B ≤ g) : Below B w0 w' :=
  hb.trans ⟨h.os, h.tape, h.output, h.size, fun k hk => h.block k (by omega) (by omega)⟩
theorem Turn.blk {g k : Nat} {w w' : World} {o : Obj} (h : Turn g w w') (hk : w.heap[k]? = some o) (hne : k ≠ g) : w'.heap[k]? = some o := (h.block k (blk_lt hk) hne).trans hk

/-- What a reader gives up with. -/
def brk (why : Int) : Value := .iface 88 (.agg #[.int .i64 why])
def gives (why : Int) : Ending := .panicked [{ v := brk why, recovered := false }]
/-- A reader of s, at p, in block g. -/
abbrev Rd (s : ByteArray) (p : Int) : Obj := .cells #[.string s, .int .i64 p] 65 (0, 0)
/-- A value by value. -/
abbrev valV (x : S33) : Value := .agg #[.int .i64 x.f0, .int .i64 x.f1, .string x.f2]
theorem setc {w : World} {g : Nat} {s : ByteArray} {p q : Int} (h : w.heap[g]? = some (Rd s p)) : (w.setCell ⟨g, 1, none⟩ (.int .i64 q)).heap[g]? = some (Rd s q) := (blk_set h 1 _).trans rfl
theorem fail_ok (v : Value) (why : Int) (w : World) : Calls Tryd.prog 37 #[v, .bool false, .int .i64 why] w fun e w' => e = .returned (.tuple #[]) ∧ w' = w := by
  go_enter Tryd.func37, Tryd.ntmps37
  go_wp2
  go_end0
  exact ⟨rfl, rfl⟩
theorem fail_gone (v : Value) (why : Int) (w : World) : Calls Tryd.prog 37 #[v, .bool true, .int .i64 why] w fun e w' => e = gives why ∧ w' = w := by
  go_enter Tryd.func37, Tryd.ntmps37
  go_wp2
  exact ⟨rfl, rfl, rfl⟩
theorem next_ok (g : Nat) (s : ByteArray) (p : Int) (w : World) (h : w.heap[g]? = some (Rd s p)) (hs : s.size ≤ 4611686018427387904) (hp : 0 ≤ p) (hlt : p < (s.size : Int)) :
    Calls Tryd.prog 41 #[.pointer (some ⟨g, 0, none⟩)] w fun e w' => e = .returned (.int .u8 (bt s p)) ∧ Turn g w w' ∧ w'.heap[g]? = some (Rd s (p + 1)) := by
  have H := Aside0.mk h
  have h0 : _ = some (Value.string s) := (blk_cell h 0).trans rfl
  have h1 : _ = some (Value.int .i64 p) := (blk_cell h 1).trans rfl
  have hb : decide ((s.size : Int) ≤ p) = false := decide_eq_false (by omega)
  have hf : w.frozen? ⟨g, 1, none⟩ = false := blk_frozen h 1
  have HB := Aside0.mk (bt_at s p)
  have hin : p.toNat < s.size := by omega
  have ha : IntKind.i64.wrap (p + 1 - 1) = p := by rw [IntWalk.i64_in _ (by omega)]; omega
  clear h
  go_enter Tryd.func41, Tryd.ntmps41
  go_wp2
  go_quiet ((go_at_call 37; exact Calls.quiet_of_same (fail_ok _ _ _)))
  go_wp2
  go_quiet (fail)
  go_wp2
  go_ret
  exact ⟨congrArg (fun z => Ending.returned (.int .u8 z)) (HB.out hin), (((Turn.drewN g w _).trans (Turn.set _ _ _ _)).trans (Turn.drewN g _ _)), setc H.out⟩
set_option maxRecDepth 100000 in
theorem next_gone (g : Nat) (s : ByteArray) (p : Int) (w : World) (h : w.heap[g]? = some (Rd s p)) (hlt : ¬ p < (s.size : Int)) :
    Calls Tryd.prog 41 #[.pointer (some ⟨g, 0, none⟩)] w fun e w' => e = gives 11 ∧ Drawn0 w w' := by
  have h0 : _ = some (Value.string s) := (blk_cell h 0).trans rfl
  have h1 : _ = some (Value.int .i64 p) := (blk_cell h 1).trans rfl
  have hb : decide ((s.size : Int) ≤ p) = true := decide_eq_true (by omega)
  clear h
  go_enter Tryd.func41, Tryd.ntmps41
  go_wp2
  go_still_tail 11, (by kernel_rfl)
  change wpList _ _ _ _ _ w.drew
  go_wp2_with (go_at_call 37; refine (fail_gone _ _ _).mono ?_; rintro e w1 ⟨he, rfl⟩; unfold gives at he; subst he)
  go_wp2
  exact ⟨rfl, rfl, ⟨⟨1, rfl⟩⟩⟩
theorem Turn.new {g : Nat} {w w' : World} (h : Turn g w w') {b : Nat} (hb : w.heap.size ≤ b) (j : Nat) (u : Value) : Turn g w (w'.setCell ⟨b, j, none⟩ u) :=
  ⟨h.os, h.tape, h.output, by simpa [World.setCell] using h.size, fun k hk hg => (Below.heap_setCell _ _ _ _ (by show k ≠ b; omega)).trans (h.block k hk hg)⟩
/-- A value laid down in a variable, field by field. -/
abbrev put3 (w : World) (b : Nat) (x : S33) : World := ((w.setCell ⟨b, 0, none⟩ (.int .i64 x.f0)).setCell ⟨b, 1, none⟩ (.int .i64 x.f1)).setCell ⟨b, 2, none⟩ (.string x.f2)
abbrev valO (x : S33) : Obj := .cells #[.int .i64 x.f0, .int .i64 x.f1, .string x.f2] 33 (0, 0)
theorem put3_heap {w : World} {b : Nat} {x y z : Value} (h : w.heap[b]? = some (.cells #[x, y, z] 33 (0, 0))) (v : S33) : (put3 w b v).heap[b]? = some (valO v) :=
  (blk_set ((blk_set ((blk_set h 0 _).trans rfl) 1 _).trans rfl) 2 _).trans rfl
theorem put3_turn {g b : Nat} {w w' : World} (h : Turn g w w') (hb : w.heap.size ≤ b) (v : S33) : Turn g w (put3 w' b v) := ((h.new hb 0 _).new hb 1 _).new hb 2 _
theorem put3_far {b g : Nat} {w : World} {cs : Array Value} {t : TypeId} (h : w.heap[g]? = some (.cells cs t (0, 0))) (hne : g ≠ b) (v : S33) : (put3 w b v).heap[g]? = some (.cells cs t (0, 0)) :=
  blk_far (blk_far (blk_far h hne _) hne _) hne _
section
variable {P : Program}
theorem results_c1 {fn : Func} {p : Tmp} {ty : TypeId} (h : fn.results = #[.cell p ty]) (tmps : Array Value) (w : World) (g : Nat) (t : TypeId) (cs : Array Value) (fr : Nat × Nat) (d : TypeDesc)
    (hp : tmps.getD p undef = .pointer (some ⟨g, 0, none⟩)) (hg : w.heap[g]? = some (.cells cs t fr))
    (hu : P.underlying ty = some d) (hd : (match d with | .struct _ | .array _ _ => true | _ => false) = true) (hi : (P.info? ty).map (·.size) = some cs.size) :
    (results fn tmps).run P w = .ok (.agg cs) w := by
  have hp' : tmps[p]?.getD undef = .pointer (some ⟨g, 0, none⟩) := by simpa using hp
  simp [results, h, hp', asAddr, run_loadVar_row w g t ty cs fr d hg hu hd hi]
end
/-- What a walk that hands a value back in a variable of its own leaves. -/
theorem val_ret {fn : Func} {R : Ending → World → Prop} {a : Act} {w : World} {t b : Nat} {x : S33} (hfn : fn.results = #[.cell t 33]) (ha : a.tmps.getD t undef = .pointer (some ⟨b, 0, none⟩))
    (hb : w.heap[b]? = some (valO x)) (hd : a.defers = []) (h : R (.returned (valV x)) w) : bodyPost Tryd.prog fn R .ret a w :=
  bodyPost_ret (results_c1 hfn _ _ b 33 _ (0, 0) _ ha hb Tryd.underlying33 rfl (by kernel_rfl)) hd h
/-- What stands while a value is read: the reader in block g, the result in the block that was made first. -/
structure Vs (w : World) (g : Nat) (s : ByteArray) (p : Int) (wr : World) : Prop where
  turn : Turn g w wr
  rdr : wr.heap[g]? = some (Rd s p)
  res : wr.heap[w.heap.size]? = some (valO z33)
  lt : g < w.heap.size
section
variable {w wr wr' : World} {g : Nat} {s : ByteArray} {p q : Int}
theorem Vs.start (h : w.heap[g]? = some (Rd s p)) : Vs w g s p (w.alloc (.cells #[.int .i64 0, .int .i64 0, .string (⟨#[]⟩ : ByteArray)] 33)) :=
  ⟨Turn.of_below (below_alloc (Below.refl _ _) _), (heap_alloc_old _ _ (blk_lt h)).trans h, heap_alloc_new _ _, blk_lt h⟩
theorem Vs.reads (h : Vs w g s p wr) (ht : Turn g wr wr') (hr : wr'.heap[g]? = some (Rd s q)) : Vs w g s q wr' := ⟨h.turn.trans ht, hr, ht.blk h.res (by have := h.lt; omega), h.lt⟩
theorem Vs.below (h : Vs w g s p wr) (hb : Below wr.heap.size wr wr') : Vs w g s p wr' := ⟨h.turn.trans (Turn.of_below hb), (hb.block _ (blk_lt h.rdr)).trans h.rdr, (hb.block _ (blk_lt h.res)).trans h.res, h.lt⟩
theorem Vs.drawn (h : Vs w g s p wr) (hd : Drawn0 wr wr') : Vs w g s p wr' := h.below hd.below
theorem Vs.set (h : Vs w g s p wr) (q : Int) : Vs w g s q (wr.setCell ⟨g, 1, none⟩ (.int .i64 q)) := h.reads (Turn.set _ _ _ _) (setc h.rdr)
theorem Vs.put (h : Vs w g s p wr) (x : S33) : Turn g w (put3 wr w.heap.size x) ∧ (put3 wr w.heap.size x).heap[g]? = some (Rd s p) :=
  ⟨put3_turn h.turn (Nat.le_refl _) x, put3_far h.rdr (by have := h.lt; omega) x⟩
theorem Vs.c (h : Vs w g s p wr) : (wr.cell? ⟨w.heap.size, 0, none⟩ = some (.int .i64 0) ∧ wr.cell? ⟨w.heap.size, 1, none⟩ = some (.int .i64 0) ∧ wr.cell? ⟨w.heap.size, 2, none⟩ = some (.string (⟨#[]⟩ : ByteArray))) ∧
    (wr.frozen? ⟨w.heap.size, 0, none⟩ = false ∧ wr.frozen? ⟨w.heap.size, 1, none⟩ = false ∧ wr.frozen? ⟨w.heap.size, 2, none⟩ = false) ∧ wr.cell? ⟨g, 0, none⟩ = some (.string s) ∧ wr.cell? ⟨g, 1, none⟩ = some (.int .i64 p) ∧ wr.frozen? ⟨g, 1, none⟩ = false :=
  ⟨⟨(blk_cell h.res 0).trans rfl, (blk_cell h.res 1).trans rfl, (blk_cell h.res 2).trans rfl⟩, ⟨blk_frozen h.res 0, blk_frozen h.res 1, blk_frozen h.res 2⟩, (blk_cell h.rdr 0).trans rfl, (blk_cell h.rdr 1).trans rfl, blk_frozen h.rdr 1⟩
end
set_option maxRecDepth 100000 in
set_option maxHeartbeats 1000000 in
theorem truth_ok (g : Nat) (s : ByteArray) (p : Int) (w : World) (h : w.heap[g]? = some (Rd s p)) (hs : s.size ≤ 4611686018427387904) (hp : 0 ≤ p) (hlt : p < (s.size : Int)) (hle : bt s p ≤ 1) :
    Calls Tryd.prog 50 #[.pointer (some ⟨g, 0, none⟩)] w fun e w' => e = .returned (valV ⟨1, bt s p, (⟨#[]⟩ : ByteArray)⟩) ∧ Turn g w w' ∧ w'.heap[g]? = some (Rd s (p + 1)) := by
  have hr := bt_rng s p
  have hb : decide (1 < bt s p) = false := decide_eq_false (by omega)
  have HV := Aside0.mk (Vs.start h)
  clear h
  go_enter Tryd.func50, Tryd.ntmps50
  go_wp2_with fail
  refine (next_ok g s p _ HV.out.rdr hs hp hlt).mono ?_
  rintro e w1 ⟨rfl, ht, hg⟩
  have HV := Aside0.mk (HV.out.reads ht hg)
  clear ht hg
  obtain ⟨⟨y0, y1, y2⟩, ⟨f0, f1, f2⟩, _⟩ := HV.out.c
  go_wp2_with (go_at_call 37; refine (fail_ok _ _ _).mono ?_; rintro e w2 ⟨rfl, rfl⟩)
  exact val_ret (t := 2) (b := w.heap.size) (x := ⟨1, bt s p, (⟨#[]⟩ : ByteArray)⟩) rfl rfl (put3_heap HV.out.res ⟨1, bt s p, (⟨#[]⟩ : ByteArray)⟩) rfl ⟨rfl, HV.out.put ⟨1, bt s p, (⟨#[]⟩ : ByteArray)⟩⟩
set_option maxRecDepth 100000 in
set_option maxHeartbeats 1000000 in
theorem truth_gone (g : Nat) (s : ByteArray) (p : Int) (w : World) (h : w.heap[g]? = some (Rd s p)) (hs : s.size ≤ 4611686018427387904) (hp : 0 ≤ p) (hbad : ¬ (p < (s.size : Int) ∧ bt s p ≤ 1)) :
    Calls Tryd.prog 50 #[.pointer (some ⟨g, 0, none⟩)] w fun e w' => e = gives (if p < (s.size : Int) then 14 else 11) ∧ Turn g w w' := by
  have HV := Aside0.mk (Vs.start h)
  clear h
  by_cases hlt : p < (s.size : Int)
  · rw [if_pos hlt]
    have hb : decide (1 < bt s p) = true := decide_eq_true (by have h := fun h => hbad ⟨hlt, h⟩; omega)
    clear hbad
    go_enter Tryd.func50, Tryd.ntmps50
    go_wp2_with fail
    refine (next_ok g s p _ HV.out.rdr hs hp hlt).mono ?_
    rintro e w1 ⟨rfl, ht, hg⟩
    have HV := Aside0.mk (HV.out.reads ht hg)
    clear ht hg
    go_wp2_with (go_at_call 37; refine (fail_gone _ _ _).mono ?_; rintro e w2 ⟨he, rfl⟩; unfold gives at he; subst he)
    go_wp2
    exact ⟨rfl, rfl, HV.out.turn⟩
  · rw [if_neg hlt]
    clear hbad
    go_enter Tryd.func50, Tryd.ntmps50
    go_wp2_with fail
    refine (next_gone g s p _ HV.out.rdr (by omega)).mono ?_
    rintro e w1 ⟨he, hd⟩
    unfold gives at he
    subst he
    have HV := Aside0.mk (HV.out.drawn hd)
    clear hd
    go_wp2
    exact ⟨rfl, rfl, HV.out.turn⟩
set_option maxRecDepth 100000 in
set_option maxHeartbeats 1000000 in
theorem number_any (g : Nat) (s : ByteArray) (p : Int) (w : World) (h : w.heap[g]? = some (Rd s p)) (hs : s.size ≤ 4611686018427387904) (v q e0 : Int) (hr : rsv s p = (v, q, e0)) :
    Calls Tryd.prog 55 #[.pointer (some ⟨g, 0, none⟩)] w fun e w' => Turn g w w' ∧ ((e0 = 0 ∧ e = .returned (valV ⟨2, v, (⟨#[]⟩ : ByteArray)⟩) ∧ w'.heap[g]? = some (Rd s q)) ∨ (e0 ≠ 0 ∧ e = gives e0)) := by
  have HV := Aside0.mk (Vs.start h)
  have HR : Aside0 (bits_ReadSvarint.f s p = some (v, q, e0)) := ⟨by unfold bits_ReadSvarint.f; rw [if_pos hs, hr]⟩
  clear h hr
  obtain ⟨⟨y0, y1, y2⟩, ⟨f0, f1, f2⟩, x0, x1, x2⟩ := HV.out.c
  by_cases he0 : e0 = 0
  · subst he0
    go_enter Tryd.func55, Tryd.ntmps55
    go_wp2
    go_quiet ((go_at_call 76; exact Calls.quiet_of ((bits_ReadSvarint.calls s p v q 0 _ HR.out).mono fun e w' hw => ⟨hw.1, hw.2.out⟩)))
    have HV := Aside0.mk (HV.out.drawn ⟨⟨nq, rfl⟩⟩)
    clear y0 y1 y2 f0 f1 f2 x0 x1 x2
    obtain ⟨⟨y0, y1, y2⟩, ⟨f0, f1, f2⟩, x0, x1, x2⟩ := HV.out.c
    have HV2 := Aside0.mk (HV.out.set q)
    have hne : w.heap.size ≠ g := Nat.ne_of_gt HV.out.lt
    generalize World.drewN _ nq = wd at *
    go_wp2_with (go_at_call 37; refine (fail_ok _ _ _).mono ?_; rintro e w2 ⟨rfl, rfl⟩)
    exact val_ret (t := 2) (b := w.heap.size) (x := ⟨2, v, (⟨#[]⟩ : ByteArray)⟩) rfl rfl (put3_heap HV2.out.res ⟨2, v, (⟨#[]⟩ : ByteArray)⟩) rfl ⟨(HV2.out.put ⟨2, v, (⟨#[]⟩ : ByteArray)⟩).1, Or.inl ⟨trivial, rfl, (HV2.out.put ⟨2, v, (⟨#[]⟩ : ByteArray)⟩).2⟩⟩
  · have hb : (e0 != 0) = true := bne_iff_ne.2 he0
    have hb2 : (e0 == 0) = false := beq_eq_false_iff_ne.2 he0
    have HE := Aside0.mk he0
    clear he0
    go_enter Tryd.func55, Tryd.ntmps55
    go_wp2
    go_quiet ((go_at_call 76; exact Calls.quiet_of ((bits_ReadSvarint.calls s p v q e0 _ HR.out).mono fun e w' hw => ⟨hw.1, hw.2.out⟩)))
    have HV := Aside0.mk (HV.out.drawn ⟨⟨nq, rfl⟩⟩)
    generalize World.drewN _ nq = wd at *
    go_wp2_with (go_at_call 37; refine (fail_gone _ _ _).mono ?_; rintro e w2 ⟨he, rfl⟩; unfold gives at he; subst he)
    go_wp2
    exact ⟨rfl, HV.out.turn, Or.inr ⟨HE.out, rfl⟩⟩
set_option maxRecDepth 100000 in
set_option maxHeartbeats 1000000 in
theorem text_any (g : Nat) (s : ByteArray) (p : Int) (w : World) (h : w.heap[g]? = some (Rd s p)) (hs : s.size ≤ 4611686018427387904) (v : ByteArray) (q e0 : Int) (hr : rtext s p 4096 = (v, q, e0)) :
    Calls Tryd.prog 59 #[.pointer (some ⟨g, 0, none⟩)] w fun e w' => Turn g w w' ∧ ((e0 = 0 ∧ e = .returned (valV ⟨3, 0, v⟩) ∧ w'.heap[g]? = some (Rd s q)) ∨ (e0 ≠ 0 ∧ e = gives e0)) := by
  have HV := Aside0.mk (Vs.start h)
  have HR : Aside0 (bits_bounded.f s p 4096 = some (v, q, e0)) := ⟨by unfold bits_bounded.f; rw [if_pos ⟨hs, by decide, by decide⟩, hr]⟩
  clear h hr
  obtain ⟨⟨y0, y1, y2⟩, ⟨f0, f1, f2⟩, x0, x1, x2⟩ := HV.out.c
  by_cases he0 : e0 = 0
  · subst he0
    go_enter Tryd.func59, Tryd.ntmps59
    go_wp2
    go_quiet ((go_at_call 78; exact Calls.quiet_of ((bits_bounded.calls s p 4096 v q 0 _ HR.out).mono fun e w' hw => ⟨hw.1, hw.2.out⟩)))
    have HV := Aside0.mk (HV.out.drawn ⟨⟨nq, rfl⟩⟩)
    clear y0 y1 y2 f0 f1 f2 x0 x1 x2
    obtain ⟨⟨y0, y1, y2⟩, ⟨f0, f1, f2⟩, x0, x1, x2⟩ := HV.out.c
    have HV2 := Aside0.mk (HV.out.set q)
    have hne : w.heap.size ≠ g := Nat.ne_of_gt HV.out.lt
    generalize World.drewN _ nq = wd at *
    go_wp2_with (go_at_call 37; refine (fail_ok _ _ _).mono ?_; rintro e w2 ⟨rfl, rfl⟩)
    exact val_ret (t := 2) (b := w.heap.size) (x := ⟨3, 0, v⟩) rfl rfl (put3_heap HV2.out.res ⟨3, 0, v⟩) rfl ⟨(HV2.out.put ⟨3, 0, v⟩).1, Or.inl ⟨trivial, rfl, (HV2.out.put ⟨3, 0, v⟩).2⟩⟩
  · have hb : (e0 != 0) = true := bne_iff_ne.2 he0
    have hb2 : (e0 == 0) = false := beq_eq_false_iff_ne.2 he0
    have HE := Aside0.mk he0
    clear he0
    go_enter Tryd.func59, Tryd.ntmps59
    go_wp2
    go_quiet ((go_at_call 78; exact Calls.quiet_of ((bits_bounded.calls s p 4096 v q e0 _ HR.out).mono fun e w' hw => ⟨hw.1, hw.2.out⟩)))
    have HV := Aside0.mk (HV.out.drawn ⟨⟨nq, rfl⟩⟩)
    generalize World.drewN _ nq = wd at *
    go_wp2_with (go_at_call 37; refine (fail_gone _ _ _).mono ?_; rintro e w2 ⟨he, rfl⟩; unfold gives at he; subst he)
    go_wp2
    exact ⟨rfl, HV.out.turn, Or.inr ⟨HE.out, rfl⟩⟩
end Go.Proofs.YtbekgkikgcmmaaaDoor.HBitR
