/- Texts of this seat laid together, what the statement needs of them: HImDd, HImCe, HImGm, HImCm, HImS, HImL, HImNm, HImBk, HImMk, HImS2, HImK, HImKe, HImSd, HImEr, HImEd, HImT, HImKd, HImLd, HOpen. -/
import Derived.Test.YtejjidggnnhgjaaDoorZD3
import Derived.Maps.OwnSet
import Derived.ChangeAlike
import Derived.SizedLaws
import Derived.ChangeSlices
import Derived.Deep.Slices
/- DecodeData of layer 12, by the program. -/
set_option linter.unusedVariables false
set_option linter.unusedSimpArgs false
namespace Go.Proofs.YtejjidggnnhgjaaDoor.HImDd
open Go.RowKit Go.Proofs.YtejjidggnnhgjaaDoor.PImg Go.Proofs.YtejjidggnnhgjaaDoor.HBase Go.Proofs.YtejjidggnnhgjaaDoor.HBlob Go.Proofs.YtejjidggnnhgjaaDoor.HSum Go.Proofs.YtejjidggnnhgjaaDoor.HCk Go.Proofs.YtejjidggnnhgjaaDoor.HImgW Go.Proofs.YtejjidggnnhgjaaDoor.HImgR Go.Proofs.YtejjidggnnhgjaaDoor.HImgO Go.Proofs.YtejjidggnnhgjaaDoor.HImP Go.Proofs.YtejjidggnnhgjaaDoor.HImD Go.Proofs.YtejjidggnnhgjaaDoor.HImE Go.Proofs.YtejjidggnnhgjaaDoor.HImR2 Go.Proofs.YtejjidggnnhgjaaDoor.HImCd Go.Proofs.YtejjidggnnhgjaaDoorW.PrintWords Go.Proofs.YtejjidggnnhgjaaDoorW.PrintLast Go.Proofs.YtejjidggnnhgjaaDoorW.PrintMore Go.Proofs.YtejjidggnnhgjaaDoor.HCore
/-- What a file is read as, and the error. -/
def res (b : ByteArray) : Option (Int × Int × Int × List SD) := if opn b ltD = 0 then (dcD (ins b)).bind fun x => if x.2 = ((ins b).size : Int) then some x.1 else none else none
def val (b : ByteArray) : Int × Int × Int × List SD := (res b).getD (0, 0, 0, [])
def code (b : ByteArray) : Int := if opn b ltD = 0 then (if (res b).isSome then 0 else 125) else opn b ltD
theorem out_val {b : ByteArray} (h : ¬ opn b ltD = 0) : val b = (0, 0, 0, []) ∧ code b = opn b ltD := by unfold val code res; rw [if_neg h, if_neg h]; exact ⟨rfl, rfl⟩
theorem none_val {b : ByteArray} (h : opn b ltD = 0) (hd : dcD (ins b) = none) : val b = (0, 0, 0, []) ∧ code b = 125 := by unfold val code res; rw [if_pos h, if_pos h, hd]; exact ⟨rfl, rfl⟩
theorem short_val {b : ByteArray} {x : (Int × Int × Int × List SD) × Int} (h : opn b ltD = 0) (hd : dcD (ins b) = some x) (hx : ¬ x.2 = ((ins b).size : Int)) : val b = (0, 0, 0, []) ∧ code b = 125 := by unfold val code res; rw [if_pos h, if_pos h, hd, Option.bind_some, if_neg hx]; exact ⟨rfl, rfl⟩
theorem some_val {b : ByteArray} {x : (Int × Int × Int × List SD) × Int} (h : opn b ltD = 0) (hd : dcD (ins b) = some x) (hx : x.2 = ((ins b).size : Int)) : val b = x.1 ∧ code b = 0 := by unfold val code res; rw [if_pos h, if_pos h, hd, Option.bind_some, if_pos hx]; exact ⟨rfl, rfl⟩
theorem ins_le (b : ByteArray) (hb : b.size ≤ 140737488355328) : (ins b).size ≤ 4611686018427387904 := by
  unfold ins
  rw [← size_list, extract_list, extract_list, List.length_take, List.length_drop, List.length_take, List.drop_zero, size_list]
  omega
/-- What stands around the closure. -/
def Qc (w2 : World) (pb : Nat) (b : ByteArray) (W1 : World) (rb : Nat) (e0 : Ending) (w1 : World) : Prop :=
  Below w2.heap.size w2 W1 ∧ w2.heap.size < rb ∧ W1.heap[w2.heap.size]? = some (.cells #[.int .i64 0] 27 (0, 0)) ∧ HImCd.Left W1 pb rb (ins b) (dcD (ins b)) e0 w1
theorem left_or {w w' : World} {pb rb : Nat} {s : ByteArray} {D : Option ((Int × Int × Int × List SD) × Int)} {e : Ending} (h : HImCd.Left w pb rb s D e w') : e = gives ∨ (e = .returned (.tuple #[]) ∧ ∃ q, w'.heap[rb]? = some (Rd s q)) := by
  obtain ⟨_, h⟩ := h
  cases D with
  | none => exact Or.inl h
  | some r => exact Or.inr ⟨h.1, _, h.2.1⟩
set_option maxRecDepth 100000 in
set_option maxHeartbeats 8000000 in
theorem dec_any (gd : ∀ (id lo hi : Int) (l : List SD), l.length ≤ 65536 → ∃ k, image_goodData.f k id lo hi l 0 ([] : List SE) = some (gdD id lo hi l)) (b : ByteArray) (w : World) (hb : b.size ≤ 140737488355328) (hT : Tab w) :
    Calls Tryd.prog 25 #[.string b] w fun e w' => ∃ u, e = .returned (.tuple #[.agg (cells (val b) u), .int .i64 (code b)]) ∧ Kd.R k58 58 w' w.heap.size (fun _ => True) u (val b).2.2.2 ∧ Below w.heap.size w w' := by
  obtain ⟨w2, e2⟩ : ∃ w2, w2 = (w.alloc (.cells #[.int .i64 0, .int .u64 0, .int .u64 0, .slice none 0 0, .int .i64 0, .slice none 0 0] 46)).alloc (.cells #[.int .i64 0, .int .u64 0, .int .u64 0, .slice none 0 0, .int .i64 0, .slice none 0 0] 46) := ⟨_, rfl⟩
  have z2 : w2.heap.size = w.heap.size + 2 := by rw [e2]; simp
  have b0 : w2.heap[w.heap.size]? = some (.cells #[.int .i64 0, .int .u64 0, .int .u64 0, .slice none 0 0, .int .i64 0, .slice none 0 0] 46 (0, 0)) := by rw [e2]; exact (heap_alloc_old _ _ (by simp)).trans (heap_alloc_new _ _)
  have b1 : w2.heap[w.heap.size + 1]? = some (.cells #[.int .i64 0, .int .u64 0, .int .u64 0, .slice none 0 0, .int .i64 0, .slice none 0 0] 46 (0, 0)) := by rw [e2]; simpa using heap_alloc_new (w.alloc (.cells #[.int .i64 0, .int .u64 0, .int .u64 0, .slice none 0 0, .int .i64 0, .slice none 0 0] 46)) (.cells #[.int .i64 0, .int .u64 0, .int .u64 0, .slice none 0 0, .int .i64 0, .slice none 0 0] 46)
  have hb2 : Below w.heap.size w w2 := by rw [e2]; exact below_alloc (below_alloc (Below.refl _ _) _) _
  have HB := Aside0.mk hb2
  have HT := Aside0.mk (hT.below hb2)
  have E2 := Aside0.mk e2
  have HZ := Aside0.mk z2
  have hmf : ∀ (fn : Fn) (first cap : Array Value) (w : World), (Instr.makeFunc fn first cap).run Tryd.prog w = .ok (.func fn first cap) w := fun _ _ _ _ => rfl
  by_cases ho : opn b ltD = 0
  · have HI := Aside0.mk (dat_in b ltD #[.pointer (some ⟨w.heap.size + 1, 0, none⟩)] w2 hb HT.out ho (Qc w2 (w.heap.size + 1) b)
      (fun W1 rb h1 h2 h3 h4 => (inner gd W1 (w.heap.size + 1) rb (ins b) (ins_le b hb) ((h1.block _ (by omega)).trans b1) h3 (by omega)).mono (fun e w' hl => ⟨h1, h2, h4, hl⟩))
      (fun W1 rb e0 w1 h => ⟨(h.2.2.2.1.block _ (blk_lt h.2.2.1) (by omega) (by have := h.2.1; omega)).trans h.2.2.1, left_or h.2.2.2⟩))
    have H0 := Aside0.mk b0
    have HO0 := Aside0.mk ho
    clear b0 b1 z2 e2 hb2 hT ho gd
    go_enter Tryd.func25, Tryd.ntmps25
    go_wp2_with fail
    rw [← E2.out]
    refine HI.out.mono ?_
    rintro e w4 ⟨c, rfl, W1, rb, e0, w1, ⟨h1, h2, h3, hL⟩, _, hTn, hor⟩
    have hz := HZ.out
    have hz1 := h1.size
    have hz2 := hL.1.size
    have r1 : w4.heap[w.heap.size]? = some (.cells #[.int .i64 0, .int .u64 0, .int .u64 0, .slice none 0 0, .int .i64 0, .slice none 0 0] 46 (0, 0)) := hTn.blk ((hL.1.block _ (by omega) (by omega) (by omega)).trans ((h1.block _ (by omega)).trans H0.out)) (by omega)
    have hB4 : Below w.heap.size w w4 := (HB.out.trans (h1.mono (by omega))).trans ⟨hTn.os.trans hL.1.os, hTn.tape.trans hL.1.tape, hTn.output.trans hL.1.output, Nat.le_trans hL.1.size hTn.size, fun k hk => (hTn.block k (by omega) (by omega)).trans (hL.1.block k (by omega) (by omega) (by omega))⟩
    have HB := Aside0.mk hB4
    have HR1 := Aside0.mk r1
    clear hB4 r1
    have hne : (Ending.returned (.tuple #[])) ≠ gives := fun h => by unfold gives at h; cases h
    cases hD : dcD (ins b) with
    | none =>
      rw [hD] at hL
      have hc : c = 125 := by rcases hor with ⟨_, h⟩ | ⟨h, _⟩; exact h; exact absurd (h.symm.trans hL.2) hne
      subst hc
      have HV := Aside0.mk (none_val HO0.out hD)
      clear hD hL hTn hor hz hz1 hz2 h1 h2 h3 hne
      have d0 : _ = some (Value.int .i64 0) := (blk_cell HR1.out 0).trans rfl
      have d1 : _ = some (Value.int .u64 0) := (blk_cell HR1.out 1).trans rfl
      have d2 : _ = some (Value.int .u64 0) := (blk_cell HR1.out 2).trans rfl
      have d3 : _ = some (Value.slice none 0 0) := (blk_cell HR1.out 3).trans rfl
      have d4 : _ = some (Value.int .i64 0) := (blk_cell HR1.out 4).trans rfl
      have d5 : _ = some (Value.slice none 0 0) := (blk_cell HR1.out 5).trans rfl
      have f0 := blk_frozen HR1.out 0
      have f1 := blk_frozen HR1.out 1
      have f2 := blk_frozen HR1.out 2
      have f3 := blk_frozen HR1.out 3
      have f4 := blk_frozen HR1.out 4
      have f5 := blk_frozen HR1.out 5
      go_wp2_with fail
      refine bodyPost_ret (v := .tuple #[.agg #[.int .i64 0, .int .u64 0, .int .u64 0, .slice none 0 0, .int .i64 0, .slice none 0 0], .int .i64 125]) (results_ct (fn := Tryd.f25) rfl _ _ w.heap.size 46 #[.int .i64 0, .int .u64 0, .int .u64 0, .slice none 0 0, .int .i64 0, .slice none 0 0] (0, 0) _ rfl (by exact (blk_set ((blk_set ((blk_set ((blk_set ((blk_set ((blk_set HR1.out 0 (.int .i64 0)).trans rfl) 1 (.int .u64 0)).trans rfl) 2 (.int .u64 0)).trans rfl) 3 (.slice none 0 0)).trans rfl) 4 (.int .i64 0)).trans rfl) 5 (.slice none 0 0)).trans rfl) Tryd.underlying46 rfl (by kernel_rfl)) rfl ?_
      refine ⟨_, by rw [HV.out.1, HV.out.2]; rfl, ?_, ((((((HB.out.setCell (p := ⟨w.heap.size, 0, none⟩) (Nat.le_refl _) _).setCell (p := ⟨w.heap.size, 1, none⟩) (Nat.le_refl _) _).setCell (p := ⟨w.heap.size, 2, none⟩) (Nat.le_refl _) _).setCell (p := ⟨w.heap.size, 3, none⟩) (Nat.le_refl _) _).setCell (p := ⟨w.heap.size, 4, none⟩) (Nat.le_refl _) _).setCell (p := ⟨w.heap.size, 5, none⟩) (Nat.le_refl _) _)⟩
      rw [HV.out.1]
      exact Kd.R_nil _ _ _ _ _
    | some x =>
      obtain ⟨r, qq⟩ := x
      rw [hD] at hL
      obtain ⟨hT2, he0, hrd, u, hu, hown⟩ := hL
      subst he0
      simp only at hrd hu hown
      have hc : c = if qq = ((ins b).size : Int) then 0 else 125 := by
        rcases hor with ⟨h, _⟩ | ⟨_, q', hq, hc⟩
        · exact absurd h hne
        · rw [hrd] at hq
          have e := Option.some.inj hq
          injection e with e
          have e2 := congrArg (fun a => a[1]?) e
          simp at e2
          rw [hc, e2]
      by_cases hq : qq = ((ins b).size : Int)
      · rw [if_pos hq] at hc
        subst hc
        have HV := Aside0.mk (some_val HO0.out hD hq)
        have r2 : w4.heap[w.heap.size + 1]? = some (.cells (cells r u) 46 (0, 0)) := hTn.blk hu (by omega)
        have ho : Kd.R k58 58 w4 w.heap.size (fun _ => True) u r.2.2.2 := Kd.R_lower (Kd.R_mono (Kd.R_keep (g := w2.heap.size) (Kd.R_newB hown h3) ⟨hTn.size, fun i hi hg _ => hTn.block i hi hg⟩ (fun _ hk => hk.2)) (fun _ _ => trivial)) (by omega)
        obtain ⟨A, cc, rfl⟩ := Kd.R_slice ho
        have HO := Aside0.mk ho
        have HR2 := Aside0.mk r2
        clear hD hT2 hrd hu hown hTn hor hz hz1 hz2 h1 h2 h3 hne hq ho r2
        have c0 : _ = some (Value.int .i64 r.1) := (blk_cell HR2.out 0).trans rfl
        have c1 : _ = some (Value.int .u64 r.2.1) := (blk_cell HR2.out 1).trans rfl
        have c2 : _ = some (Value.int .u64 r.2.2.1) := (blk_cell HR2.out 2).trans rfl
        have c3 : _ = some (Value.slice A r.2.2.2.length cc) := (blk_cell HR2.out 3).trans rfl
        have c4 : _ = some (Value.int .i64 0) := (blk_cell HR2.out 4).trans rfl
        have c5 : _ = some (Value.slice none 0 0) := (blk_cell HR2.out 5).trans rfl
        have d0 : _ = some (Value.int .i64 0) := (blk_cell HR1.out 0).trans rfl
        have d1 : _ = some (Value.int .u64 0) := (blk_cell HR1.out 1).trans rfl
        have d2 : _ = some (Value.int .u64 0) := (blk_cell HR1.out 2).trans rfl
        have d3 : _ = some (Value.slice none 0 0) := (blk_cell HR1.out 3).trans rfl
        have d4 : _ = some (Value.int .i64 0) := (blk_cell HR1.out 4).trans rfl
        have d5 : _ = some (Value.slice none 0 0) := (blk_cell HR1.out 5).trans rfl
        have f0 := blk_frozen HR1.out 0
        have f1 := blk_frozen HR1.out 1
        have f2 := blk_frozen HR1.out 2
        have f3 := blk_frozen HR1.out 3
        have f4 := blk_frozen HR1.out 4
        have f5 := blk_frozen HR1.out 5
        go_wp2_with fail
        refine bodyPost_ret (v := .tuple #[.agg #[.int .i64 r.1, .int .u64 r.2.1, .int .u64 r.2.2.1, .slice A r.2.2.2.length cc, .int .i64 0, .slice none 0 0], .int .i64 0]) (results_ct (fn := Tryd.f25) rfl _ _ w.heap.size 46 #[.int .i64 r.1, .int .u64 r.2.1, .int .u64 r.2.2.1, .slice A r.2.2.2.length cc, .int .i64 0, .slice none 0 0] (0, 0) _ rfl (by exact (blk_set ((blk_set ((blk_set ((blk_set ((blk_set ((blk_set HR1.out 0 (.int .i64 r.1)).trans rfl) 1 (.int .u64 r.2.1)).trans rfl) 2 (.int .u64 r.2.2.1)).trans rfl) 3 (.slice A r.2.2.2.length cc)).trans rfl) 4 (.int .i64 0)).trans rfl) 5 (.slice none 0 0)).trans rfl) Tryd.underlying46 rfl (by kernel_rfl)) rfl ?_
        refine ⟨_, by rw [HV.out.1, HV.out.2]; rfl, ?_, ((((((HB.out.setCell (p := ⟨w.heap.size, 0, none⟩) (Nat.le_refl _) _).setCell (p := ⟨w.heap.size, 1, none⟩) (Nat.le_refl _) _).setCell (p := ⟨w.heap.size, 2, none⟩) (Nat.le_refl _) _).setCell (p := ⟨w.heap.size, 3, none⟩) (Nat.le_refl _) _).setCell (p := ⟨w.heap.size, 4, none⟩) (Nat.le_refl _) _).setCell (p := ⟨w.heap.size, 5, none⟩) (Nat.le_refl _) _)⟩
        rw [HV.out.1]
        exact Kd.R_mono (Kd.R_far (p := ⟨w.heap.size, 5, none⟩) (Kd.R_far (p := ⟨w.heap.size, 4, none⟩) (Kd.R_far (p := ⟨w.heap.size, 3, none⟩) (Kd.R_far (p := ⟨w.heap.size, 2, none⟩) (Kd.R_far (p := ⟨w.heap.size, 1, none⟩) (Kd.R_far (p := ⟨w.heap.size, 0, none⟩) (Kd.R_types HO.out HR1.out (by decide)) (fun _ hk => hk.2) _) (fun _ hk => hk.2) _) (fun _ hk => hk.2) _) (fun _ hk => hk.2) _) (fun _ hk => hk.2) _) (fun _ hk => hk.2) _) (fun _ _ => trivial)
      · rw [if_neg hq] at hc
        subst hc
        have HV := Aside0.mk (short_val HO0.out hD hq)
        clear hD hT2 hrd hu hown hTn hor hz hz1 hz2 h1 h2 h3 hne hq
        have d0 : _ = some (Value.int .i64 0) := (blk_cell HR1.out 0).trans rfl
        have d1 : _ = some (Value.int .u64 0) := (blk_cell HR1.out 1).trans rfl
        have d2 : _ = some (Value.int .u64 0) := (blk_cell HR1.out 2).trans rfl
        have d3 : _ = some (Value.slice none 0 0) := (blk_cell HR1.out 3).trans rfl
        have d4 : _ = some (Value.int .i64 0) := (blk_cell HR1.out 4).trans rfl
        have d5 : _ = some (Value.slice none 0 0) := (blk_cell HR1.out 5).trans rfl
        have f0 := blk_frozen HR1.out 0
        have f1 := blk_frozen HR1.out 1
        have f2 := blk_frozen HR1.out 2
        have f3 := blk_frozen HR1.out 3
        have f4 := blk_frozen HR1.out 4
        have f5 := blk_frozen HR1.out 5
        go_wp2_with fail
        refine bodyPost_ret (v := .tuple #[.agg #[.int .i64 0, .int .u64 0, .int .u64 0, .slice none 0 0, .int .i64 0, .slice none 0 0], .int .i64 125]) (results_ct (fn := Tryd.f25) rfl _ _ w.heap.size 46 #[.int .i64 0, .int .u64 0, .int .u64 0, .slice none 0 0, .int .i64 0, .slice none 0 0] (0, 0) _ rfl (by exact (blk_set ((blk_set ((blk_set ((blk_set ((blk_set ((blk_set HR1.out 0 (.int .i64 0)).trans rfl) 1 (.int .u64 0)).trans rfl) 2 (.int .u64 0)).trans rfl) 3 (.slice none 0 0)).trans rfl) 4 (.int .i64 0)).trans rfl) 5 (.slice none 0 0)).trans rfl) Tryd.underlying46 rfl (by kernel_rfl)) rfl ?_
        refine ⟨_, by rw [HV.out.1, HV.out.2]; rfl, ?_, ((((((HB.out.setCell (p := ⟨w.heap.size, 0, none⟩) (Nat.le_refl _) _).setCell (p := ⟨w.heap.size, 1, none⟩) (Nat.le_refl _) _).setCell (p := ⟨w.heap.size, 2, none⟩) (Nat.le_refl _) _).setCell (p := ⟨w.heap.size, 3, none⟩) (Nat.le_refl _) _).setCell (p := ⟨w.heap.size, 4, none⟩) (Nat.le_refl _) _).setCell (p := ⟨w.heap.size, 5, none⟩) (Nat.le_refl _) _)⟩
        rw [HV.out.1]
        exact Kd.R_nil _ _ _ _ _
  · have HI := Aside0.mk (dat_out b ltD #[.pointer (some ⟨w.heap.size + 1, 0, none⟩)] w2 hb HT.out ho)
    have HV := Aside0.mk (out_val ho)
    have H0 := Aside0.mk b0
    have HO0 := Aside0.mk ho
    clear b0 b1 z2 e2 hb2 hT ho gd
    go_enter Tryd.func25, Tryd.ntmps25
    go_wp2_with fail
    rw [← E2.out]
    refine HI.out.mono ?_
    rintro e w4 ⟨rfl, hb4⟩
    have hz := HZ.out
    have HR1 := Aside0.mk ((hb4.block _ (by omega)).trans H0.out)
    have HB := Aside0.mk (HB.out.trans (hb4.mono (by omega)))
    have hk : (opn b ltD == 0) = false := beq_eq_false_iff_ne.2 HO0.out
    generalize opn b ltD = cd at hk HV ⊢
    clear hb4 hz HI HO0
    have d0 : _ = some (Value.int .i64 0) := (blk_cell HR1.out 0).trans rfl
    have d1 : _ = some (Value.int .u64 0) := (blk_cell HR1.out 1).trans rfl
    have d2 : _ = some (Value.int .u64 0) := (blk_cell HR1.out 2).trans rfl
    have d3 : _ = some (Value.slice none 0 0) := (blk_cell HR1.out 3).trans rfl
    have d4 : _ = some (Value.int .i64 0) := (blk_cell HR1.out 4).trans rfl
    have d5 : _ = some (Value.slice none 0 0) := (blk_cell HR1.out 5).trans rfl
    have f0 := blk_frozen HR1.out 0
    have f1 := blk_frozen HR1.out 1
    have f2 := blk_frozen HR1.out 2
    have f3 := blk_frozen HR1.out 3
    have f4 := blk_frozen HR1.out 4
    have f5 := blk_frozen HR1.out 5
    go_wp2_with fail
    refine bodyPost_ret (v := .tuple #[.agg #[.int .i64 0, .int .u64 0, .int .u64 0, .slice none 0 0, .int .i64 0, .slice none 0 0], .int .i64 cd]) (results_ct (fn := Tryd.f25) rfl _ _ w.heap.size 46 #[.int .i64 0, .int .u64 0, .int .u64 0, .slice none 0 0, .int .i64 0, .slice none 0 0] (0, 0) _ rfl (by exact (blk_set ((blk_set ((blk_set ((blk_set ((blk_set ((blk_set HR1.out 0 (.int .i64 0)).trans rfl) 1 (.int .u64 0)).trans rfl) 2 (.int .u64 0)).trans rfl) 3 (.slice none 0 0)).trans rfl) 4 (.int .i64 0)).trans rfl) 5 (.slice none 0 0)).trans rfl) Tryd.underlying46 rfl (by kernel_rfl)) rfl ?_
    refine ⟨_, by rw [HV.out.1, HV.out.2]; rfl, ?_, ((((((HB.out.setCell (p := ⟨w.heap.size, 0, none⟩) (Nat.le_refl _) _).setCell (p := ⟨w.heap.size, 1, none⟩) (Nat.le_refl _) _).setCell (p := ⟨w.heap.size, 2, none⟩) (Nat.le_refl _) _).setCell (p := ⟨w.heap.size, 3, none⟩) (Nat.le_refl _) _).setCell (p := ⟨w.heap.size, 4, none⟩) (Nat.le_refl _) _).setCell (p := ⟨w.heap.size, 5, none⟩) (Nat.le_refl _) _)⟩
    rw [HV.out.1]
    exact Kd.R_nil _ _ _ _ _
end Go.Proofs.YtejjidggnnhgjaaDoor.HImDd
/- The closure of DecodeDelta of layer 12, by the program. -/
set_option linter.unusedVariables false
set_option linter.unusedSimpArgs false
namespace Go.Proofs.YtejjidggnnhgjaaDoor.HImCe
open Go.RowKit Go.Proofs.YtejjidggnnhgjaaDoor.PImg Go.Proofs.YtejjidggnnhgjaaDoor.HBase Go.Proofs.YtejjidggnnhgjaaDoor.HBlob Go.Proofs.YtejjidggnnhgjaaDoor.HSum Go.Proofs.YtejjidggnnhgjaaDoor.HCk Go.Proofs.YtejjidggnnhgjaaDoor.HImgW Go.Proofs.YtejjidggnnhgjaaDoor.HImgR Go.Proofs.YtejjidggnnhgjaaDoor.HImgO Go.Proofs.YtejjidggnnhgjaaDoor.HImP Go.Proofs.YtejjidggnnhgjaaDoor.HImD Go.Proofs.YtejjidggnnhgjaaDoor.HImR2 Go.Proofs.YtejjidggnnhgjaaDoorW.PrintWords Go.Proofs.YtejjidggnnhgjaaDoorW.PrintLast Go.Proofs.YtejjidggnnhgjaaDoorW.PrintMore Go.Proofs.YtejjidggnnhgjaaDoor.HCore
def cells (r : Int × Int × List SE) (u : Value) : Array Value := #[.int .i64 r.1, .int .u64 0, .int .u64 0, .slice none 0 0, .int .i64 r.2.1, u]
/-- What the closure leaves. -/
def Left (w : World) (pb rb : Nat) (s : ByteArray) (D : Option ((Int × Int × List SE) × Int)) (e : Ending) (w' : World) : Prop :=
  Two pb rb w w' ∧ match D with
  | some rq => e = .returned (.tuple #[]) ∧ w'.heap[rb]? = some (Rd s rq.2) ∧ ∃ u, w'.heap[pb]? = some (.cells (cells rq.1 u) 46 (0, 0)) ∧ Kd.R k60 60 w' w.heap.size (fun _ => True) u rq.1.2.2
  | none => e = gives
theorem Left.gone {w w' : World} {pb rb : Nat} {s : ByteArray} {D : Option ((Int × Int × List SE) × Int)} (h : Two pb rb w w') (hD : D = none) : Left w pb rb s D gives w' := by subst hD; exact ⟨h, rfl⟩
theorem Left.read {w w' : World} {pb rb : Nat} {s : ByteArray} {D : Option ((Int × Int × List SE) × Int)} {r : Int × Int × List SE} {q : Int} {u : Value} (h : Two pb rb w w') (hD : D = some (r, q)) (h1 : w'.heap[rb]? = some (Rd s q)) (h2 : w'.heap[pb]? = some (.cells (cells r u) 46 (0, 0))) (h3 : Kd.R k60 60 w' w.heap.size (fun _ => True) u r.2.2) : Left w pb rb s D (.returned (.tuple #[])) w' := by subst hD; exact ⟨h, rfl, h1, u, h2, h3⟩
end Go.Proofs.YtejjidggnnhgjaaDoor.HImCe
/- goodManifest of layer 12, by the program: it keeps the numbers of the pairs in a map of its own. -/
set_option linter.unusedVariables false
set_option linter.unusedSimpArgs false
namespace Go.Proofs.YtejjidggnnhgjaaDoor.HImGm
open Go.RowKit Go.Maps Go.Proofs.YtejjidggnnhgjaaDoor.PImg Go.Proofs.YtejjidggnnhgjaaDoor.HImP Go.Proofs.YtejjidggnnhgjaaDoor.HImD Go.Proofs.YtejjidggnnhgjaaDoor.HImE Go.Proofs.YtejjidggnnhgjaaDoorW.PrintWords Go.Proofs.YtejjidggnnhgjaaDoorW.PrintLast Go.Proofs.YtejjidggnnhgjaaDoorW.PrintMore Go.Proofs.YtejjidggnnhgjaaDoor.HCore
def keyN (x : SN) : Lit := .int .i64 x.f0
/-- What stands while the names are looked at. -/
structure St (w wr : World) (cs : Array Value) (ps : List SN) (k : Nat) : Prop where
  below : Below w.heap.size w wr
  box : wr.heap[w.heap.size]? = some (.cells cs 25 (0, 0))
  own : wr.ownsMap Tryd.prog 3 (unitElem (H := Unit)) (w.heap.size + 1) k (setOf (.agg []) ((ps.take k).map keyN))
theorem St.step {w wr w1 : World} {cs : Array Value} {ps : List SN} {k : Nat} (h : St w wr cs ps k) (hk : k < ps.length) (o : Obj) (hown : w1.ownsMap Tryd.prog 3 (unitElem (H := Unit)) (w.heap.size + 1) (k + 1) ((setOf (.agg []) ((ps.take k).map keyN)).put (keyN ps[k]) (.agg []))) (hg : (wr.alloc o).grownBy w1 (some (w.heap.size + 1))) : St w w1 cs ps (k + 1) := by
  have hb := below_alloc h.below o
  have h0 := (heap_alloc_old wr o (blk_lt h.box)).trans h.box
  refine ⟨hb.grown hg hb.size (fun j hj => by cases hj; omega), ?_, ?_⟩
  · exact (hg.block _ (blk_lt h0) (fun e => by injection e; omega)).trans h0
  · rw [List.take_succ_eq_append_getElem hk, List.map_append, List.map_cons, List.map_nil, setOf_snoc]
    exact hown
end Go.Proofs.YtejjidggnnhgjaaDoor.HImGm
/- The closure of DecodeManifest of layer 12, by the program. -/
set_option linter.unusedVariables false
set_option linter.unusedSimpArgs false
namespace Go.Proofs.YtejjidggnnhgjaaDoor.HImCm
open Go.RowKit Go.Proofs.YtejjidggnnhgjaaDoor.PImg Go.Proofs.YtejjidggnnhgjaaDoor.HBase Go.Proofs.YtejjidggnnhgjaaDoor.HBlob Go.Proofs.YtejjidggnnhgjaaDoor.HSum Go.Proofs.YtejjidggnnhgjaaDoor.HCk Go.Proofs.YtejjidggnnhgjaaDoor.HImgW Go.Proofs.YtejjidggnnhgjaaDoor.HImgR Go.Proofs.YtejjidggnnhgjaaDoor.HImgO Go.Proofs.YtejjidggnnhgjaaDoor.HImP Go.Proofs.YtejjidggnnhgjaaDoor.HImD Go.Proofs.YtejjidggnnhgjaaDoor.HImR2 Go.Proofs.YtejjidggnnhgjaaDoorW.PrintWords Go.Proofs.YtejjidggnnhgjaaDoorW.PrintLast Go.Proofs.YtejjidggnnhgjaaDoorW.PrintMore Go.Proofs.YtejjidggnnhgjaaDoor.HCore
def cells (r : Int × Int × Int × List SN) (u : Value) : Array Value := #[.int .i64 r.1, .int .i64 r.2.1, .int .u64 r.2.2.1, u]
/-- What the closure leaves. -/
def Left (w : World) (pb rb : Nat) (s : ByteArray) (D : Option ((Int × Int × Int × List SN) × Int)) (e : Ending) (w' : World) : Prop :=
  Two pb rb w w' ∧ match D with
  | some rq => e = .returned (.tuple #[]) ∧ w'.heap[rb]? = some (Rd s rq.2) ∧ ∃ u, w'.heap[pb]? = some (.cells (cells rq.1 u) 25 (0, 0)) ∧ Kd.R k36 36 w' w.heap.size (fun _ => True) u rq.1.2.2.2
  | none => e = gives
theorem Left.gone {w w' : World} {pb rb : Nat} {s : ByteArray} {D : Option ((Int × Int × Int × List SN) × Int)} (h : Two pb rb w w') (hD : D = none) : Left w pb rb s D gives w' := by subst hD; exact ⟨h, rfl⟩
theorem Left.read {w w' : World} {pb rb : Nat} {s : ByteArray} {D : Option ((Int × Int × Int × List SN) × Int)} {r : Int × Int × Int × List SN} {q : Int} {u : Value} (h : Two pb rb w w') (hD : D = some (r, q)) (h1 : w'.heap[rb]? = some (Rd s q)) (h2 : w'.heap[pb]? = some (.cells (cells r u) 25 (0, 0))) (h3 : Kd.R k36 36 w' w.heap.size (fun _ => True) u r.2.2.2) : Left w pb rb s D (.returned (.tuple #[])) w' := by subst hD; exact ⟨h, rfl, h1, u, h2, h3⟩
end Go.Proofs.YtejjidggnnhgjaaDoor.HImCm
/- Reading a file of layer 12 loosely, as the document does, step by step: what stands while the records are gathered; and what a loose reading that is laid down again comes to. -/
set_option linter.unusedVariables false
set_option linter.unusedSimpArgs false
namespace Go.Proofs.YtejjidggnnhgjaaDoor.HImS
open Go.RowKit Go.Proofs.YtejjidggnnhgjaaDoor.PImg Go.Proofs.YtejjidggnnhgjaaDoor.HBase Go.Proofs.YtejjidggnnhgjaaDoor.HBlob Go.Proofs.YtejjidggnnhgjaaDoor.HSum Go.Proofs.YtejjidggnnhgjaaDoor.HCk Go.Proofs.YtejjidggnnhgjaaDoor.HImgW Go.Proofs.YtejjidggnnhgjaaDoor.HImgR Go.Proofs.YtejjidggnnhgjaaDoor.HImgO Go.Proofs.YtejjidggnnhgjaaDoor.HImP Go.Proofs.YtejjidggnnhgjaaDoor.HImD Go.Proofs.YtejjidggnnhgjaaDoor.HImE Go.Proofs.YtejjidggnnhgjaaDoor.HImF Go.Proofs.YtejjidggnnhgjaaDoorW.PrintWords Go.Proofs.YtejjidggnnhgjaaDoorW.PrintLast Go.Proofs.YtejjidggnnhgjaaDoorW.PrintMore Go.Proofs.YtejjidggnnhgjaaDoor.HCore
/-- What stands: the result's block (the first), the struct in pb, the cursor in gb; the records' row is not block nb. -/
structure Lo {X : Type} (d : Kd X) (E T : Nat) (Z : Array Value) (w : World) (pb gb nb : Nat) (s : ByteArray) (c : Int × Bool) (cs : Array Value) (u : Value) (l : List X) (wr : World) : Prop where
  below : Below w.heap.size w wr
  res : wr.heap[w.heap.size]? = some (.cells Z T (0, 0))
  pair : wr.heap[pb]? = some (.cells cs T (0, 0))
  cur : Cu w wr gb s c
  own : Kd.R d E wr w.heap.size (fun k => k ≠ nb) u l
  ne : w.heap.size < pb ∧ pb ≠ gb ∧ w.heap.size < gb
section
variable {X : Type} {d : Kd X} {E T : Nat} {Z : Array Value} {w wr wr' : World} {pb gb nb : Nat} {s : ByteArray} {c c' : Int × Bool} {cs : Array Value} {u : Value} {l : List X}
theorem Lo.step (h : Lo d E T Z w pb gb nb s c cs u l wr) (hb : Below wr.heap.size wr wr') : Lo d E T Z w pb gb nb s c cs u l wr' :=
  ⟨below_then h.below h.below.size hb, (hb.block _ (blk_lt h.res)).trans h.res, (hb.block _ (blk_lt h.pair)).trans h.pair, h.cur.below hb, Kd.R_below h.own hb, h.ne⟩
theorem Lo.drew (h : Lo d E T Z w pb gb nb s c cs u l wr) : Lo d E T Z w pb gb nb s c cs u l wr.drew := h.step (below_drew (Below.refl _ _))
theorem Lo.drewN (h : Lo d E T Z w pb gb nb s c cs u l wr) (n : Nat) : Lo d E T Z w pb gb nb s c cs u l (wr.drewN n) := h.step (pw_below_drewN (Below.refl _ _) n)
theorem Lo.reads (ht : ∀ q, q ∈ E :: d.E → q ≠ 93) (h : Lo d E T Z w pb gb nb s c cs u l wr) (hI : Cu w wr' gb s c') (hb : Below w.heap.size w wr') (hk : KeepBut wr wr' gb none) : Lo d E T Z w pb gb nb s c' cs u l wr' :=
  ⟨hb, (hk.2 _ (blk_lt h.res) (by have := h.ne; omega) (by simp)).trans h.res, (hk.2 _ (blk_lt h.pair) h.ne.2.1 (by simp)).trans h.pair, hI, Kd.R_mono (Kd.R_keep (Kd.R_types h.own h.cur.1 ht) hk (fun _ hk => hk.2)) (fun _ hk => hk.1), h.ne⟩
theorem Lo.new (h : Lo d E T Z w pb gb nb s c cs u l wr) (o : Obj) : Lo d E T Z w pb gb wr.heap.size s c cs u l (wr.alloc o) := by
  have h2 := h.step (below_alloc (Below.refl _ _) o)
  exact ⟨h2.below, h2.res, h2.pair, h2.cur, Kd.R_alloc (Kd.R_mono (Kd.R_elderB h.own wr.heap.size (Nat.le_refl _)) (fun _ hk => hk.2)) o, h2.ne⟩
theorem Lo.free (ht : ∀ q, q ∈ E :: d.E → q ≠ 93) (h : Lo d E T Z w pb gb nb s c cs u l wr) : Lo d E T Z w pb gb gb s c cs u l wr :=
  ⟨h.below, h.res, h.pair, h.cur, Kd.R_mono (Kd.R_types h.own h.cur.1 ht) (fun _ hk => hk.2), h.ne⟩
theorem cur_far {p : Addr} (h : Cu w wr gb s c) (hn : gb ≠ p.block) (v : Value) : Cu w (wr.setCell p v) gb s c := ⟨blk_far h.1 hn v, h.2⟩
theorem Lo.put (ht : ∀ q, q ∈ E :: d.E → q ≠ T) (h : Lo d E T Z w pb gb nb s c cs u l wr) (j : Nat) (v : Value) : Lo d E T Z w pb gb nb s c (cs.setIfInBounds j v) u l (wr.setCell ⟨pb, j, none⟩ v) :=
  ⟨h.below.setCell (p := ⟨pb, j, none⟩) (Nat.le_of_lt h.ne.1) v, blk_far h.res (by have := h.ne; show w.heap.size ≠ pb; omega) v, blk_set h.pair j v, cur_far h.cur (Ne.symm h.ne.2.1) v, Kd.R_set h.own h.pair ht j v, h.ne⟩
theorem Lo.far (h : Lo d E T Z w pb gb nb s c cs u l wr) (hn : w.heap.size < nb ∧ nb ≠ pb ∧ nb ≠ gb) (j : Nat) (v : Value) : Lo d E T Z w pb gb nb s c cs u l (wr.setCell ⟨nb, j, none⟩ v) :=
  ⟨h.below.setCell (p := ⟨nb, j, none⟩) (Nat.le_of_lt hn.1) v, blk_far h.res (by show w.heap.size ≠ nb; omega) v, blk_far h.pair (Ne.symm hn.2.1) v, cur_far h.cur (Ne.symm hn.2.2) v, Kd.R_far h.own (fun _ hk => hk) v, h.ne⟩
theorem Lo.more (ht : ∀ q, q ∈ E :: d.E → q ≠ T) (ht2 : ∀ q, q ∈ E :: d.E → q ≠ 93) (h : Lo d E T Z w pb gb nb s c cs u l wr) {u' : Value} {l' : List X} (hb : Below w.heap.size w wr') (hg : wr.grownBy wr' u.ownBlock) (ho : Kd.R d E wr' w.heap.size (fun k => k ≠ nb) u' l') (j : Nat) :
    Lo d E T Z w pb gb nb s c (cs.setIfInBounds j u') u' l' (wr'.setCell ⟨pb, j, none⟩ u') := by
  have hE := ht E (List.mem_cons_self ..)
  have hE2 := ht2 E (List.mem_cons_self ..)
  have h0 : Lo d E T Z w pb gb nb s c cs u' l' wr' :=
    ⟨hb, (hg.block _ (blk_lt h.res) (Kd.R_ne h.own h.res hE)).trans h.res, (hg.block _ (blk_lt h.pair) (Kd.R_ne h.own h.pair hE)).trans h.pair, h.cur.grown hg (Kd.R_ne h.own h.cur.1 hE2), ho, h.ne⟩
  exact h0.put ht j u'
end
/-! ### what a loose reading comes to -/
theorem file_iff {b lt : ByteArray} {l : List UInt8} (hlt : lt.size = 8) (ho : opn b lt = 0) : fileOf lt l = b ↔ l = (ins b).data.toList := by
  unfold opn at ho
  have h1 : ¬ b.size < 12 := fun h => by rw [if_pos h] at ho; exact absurd ho (by decide)
  rw [if_neg h1] at ho
  have h2 : ¬ Lib.hasPrefix b.data.toList lt.data.toList = false := fun h => by rw [if_pos h] at ho; exact absurd ho (by decide)
  rw [if_neg h2] at ho
  have h3 : (fxb 4 (ck (b.extract 0 (b.size - 4)))).toList = (b.extract (b.size - 4) b.size).toList := by
    apply Classical.byContradiction
    intro h
    rw [if_neg h] at ho
    exact absurd ho (by decide)
  have hp := pre_iff b lt (by omega) hlt
  have h4 : (b.extract 0 8).data.toList = lt.data.toList := by
    have : Lib.hasPrefix b.data.toList lt.data.toList = true := by simpa using h2
    rw [this] at hp
    have := beq_iff_eq.1 hp.symm
    rwa [toList_data, toList_data] at this
  rw [toList_data, toList_data] at h3
  have hi := ins_eq b (by omega)
  have hbody : (b.extract 0 (b.size - 4)).data.toList = lt.data.toList ++ (ins b).data.toList := by
    rw [← h4, hi, extract_list, extract_list, extract_list, List.drop_zero, Nat.sub_zero, Nat.sub_zero]
    rw [← List.take_add, show 8 + (b.size - 4 - 8) = b.size - 4 by omega]
  have hbl : b.data.toList = (b.extract 0 (b.size - 4)).data.toList ++ (b.extract (b.size - 4) b.size).data.toList := by
    rw [extract_list, extract_list, List.drop_zero, Nat.sub_zero]
    rw [List.take_of_length_le (l := b.data.toList.drop (b.size - 4)) (by rw [List.length_drop, size_list]; omega), List.take_append_drop]
  have e2 : (⟨(lt.data.toList ++ (ins b).data.toList).toArray⟩ : ByteArray) = b.extract 0 (b.size - 4) := by
    apply ba_ext
    rw [hbody]
  constructor
  · intro h
    have h5 : (fileOf lt l).data.toList = b.data.toList := by rw [h]
    unfold fileOf at h5
    rw [append_list, show (⟨(lt.data.toList ++ l).toArray⟩ : ByteArray).data.toList = lt.data.toList ++ l from rfl] at h5
    have hbz := size_list b
    have hl4 : (fxb 4 (ck ⟨(lt.data.toList ++ l).toArray⟩)).data.toList.length = 4 := by rw [size_list, fxb_len]
    have hlen := congrArg List.length h5
    rw [List.length_append, hl4] at hlen
    have h6 : lt.data.toList ++ l = (b.extract 0 (b.size - 4)).data.toList := by
      have := congrArg (List.take (b.size - 4)) h5
      rw [List.take_append_of_le_length (by simp only [List.length_append] at hlen ⊢; omega), List.take_of_length_le (by simp only [List.length_append] at hlen ⊢; omega)] at this
      rw [extract_list, List.drop_zero, Nat.sub_zero]
      exact this
    rw [hbody] at h6
    exact List.append_cancel_left h6
  · intro h
    subst h
    apply ba_ext
    unfold fileOf
    rw [e2, append_list, h3, ← hbl]
end Go.Proofs.YtejjidggnnhgjaaDoor.HImS
/- Lists of layer 12's records, written where they lie and made longer: what stands meanwhile. -/
set_option linter.unusedVariables false
set_option linter.unusedSimpArgs false
namespace Go.Proofs.YtejjidggnnhgjaaDoor.HImL
open Go.RowKit Go.Proofs.YtejjidggnnhgjaaDoor.PImg Go.Proofs.YtejjidggnnhgjaaDoor.HImP Go.Proofs.YtejjidggnnhgjaaDoor.HImD Go.Proofs.YtejjidggnnhgjaaDoorW.PrintWords Go.Proofs.YtejjidggnnhgjaaDoorW.PrintLast Go.Proofs.YtejjidggnnhgjaaDoorW.PrintMore Go.Proofs.YtejjidggnnhgjaaDoor.HCore
theorem store_run {P : Program} {o : Oper} {a : Act} {w w1 : World} {t : TypeId} {x y : Operand} {p v : Value} (ho : o.op = .store t x y) (hx : a.eval x = p) (hy : a.eval y = v) (h : (Instr.storeAt t p v).run P w = .ok () w1) : (execOp a.eval o).run P w = .ok .skip w1 := by
  unfold execOp
  rw [ho]
  simp [hx, hy, h]
/-- A row of one's own, from a world on: nothing else that was there has been touched. -/
structure Rw {X : Type} (d : Kd X) (E : Nat) (w0 : World) (base : Nat) (v0 : Value) (W : World) (v : Value) (l : List X) : Prop where
  bel : Below base w0 W
  own : Kd.R d E W base (fun _ => True) v l
  gr : w0.grownBy W v0.ownBlock
  blk : v.ownBlock = v0.ownBlock ∨ ∃ b, v.ownBlock = some b ∧ w0.heap.size ≤ b
  hb : base ≤ w0.heap.size
section
variable {X : Type} {d : Kd X} {E : Nat} {w0 W W' : World} {base : Nat} {v0 v : Value} {l : List X}
theorem Rw.start (h : Kd.R d E w0 base (fun _ => True) v0 l) (hb : base ≤ w0.heap.size) : Rw d E w0 base v0 w0 v0 l := ⟨Below.refl _ _, h, ⟨rfl, rfl, rfl, Nat.le_refl _, fun _ _ _ => rfl⟩, Or.inl rfl, hb⟩
theorem Rw.below (h : Rw d E w0 base v0 W v l) (hb : Below W.heap.size W W') : Rw d E w0 base v0 W' v l :=
  ⟨below_then h.bel (Nat.le_trans h.hb h.gr.size) hb, Kd.R_below h.own hb, ⟨hb.os.trans h.gr.os, hb.tape.trans h.gr.tape, hb.output.trans h.gr.output, Nat.le_trans h.gr.size hb.size, fun k hk hn => (hb.block k (Nat.lt_of_lt_of_le hk h.gr.size)).trans (h.gr.block k hk hn)⟩, h.blk, h.hb⟩
end
/-- Element i of a row is written whole. -/
theorem wrD {W : World} {base g n c : Nat} {xs : List S58} (h : Kd.R k58 58 W base (fun _ => True) (.slice (some ⟨g, 0, none⟩) n c) xs) (i : Nat) (hi : i < n) (x : S58) :
    Kd.R k58 58 (W.setCells g (i * 3) [.int .u64 x.f0, .string x.f1, .string x.f2]) base (fun _ => True) (.slice (some ⟨g, 0, none⟩) n c) (xs.set i x)
    ∧ W.grownBy (W.setCells g (i * 3) [.int .u64 x.f0, .string x.f1, .string x.f2]) (some g)
    ∧ ∀ (v : Value), v.cells.toList = [.int .u64 x.f0, .string x.f1, .string x.f2] → (Instr.storeAt 58 (.pointer (some ⟨g, i * 3, none⟩)) v).run Tryd.prog W = .ok () (W.setCells g (i * 3) [.int .u64 x.f0, .string x.f1, .string x.f2]) := by
  obtain ⟨hl, hnc, hC⟩ := Kd.R_reads' h
  obtain ⟨ad, cs, e1, e2, e3, e4⟩ := ReadsRow.get_ hC z58 (i : Int) (by omega) (by omega)
  obtain rfl := Option.some.inj e1
  have hs := Kd.R_seg (okp := fun _ => False) (x' := x) (seg := [.int .u64 x.f0, .string x.f1, .string x.f2]) (j := 0) h (i : Int) (by omega) (by omega) e2 (fun j u hu => by have := e4 j u hu; rwa [add_plain] at this) (show 0 + 3 ≤ 3 by omega) (by
    have e : cs.drop (0 + 3) = [] := List.drop_of_length_le (by rw [e2]; decide)
    show k58.M W base (fun _ => False) x (cs.take 0 ++ [.int .u64 x.f0, .string x.f1, .string x.f2] ++ cs.drop (0 + 3))
    rw [e]
    exact k58_mkM _ _ _ x) (fun _ hk => hk.elim)
  obtain ⟨hr, hg⟩ := hs
  have hz : ((i : Int).toNat * k58.sz + 0) = i * 3 := rfl
  rw [hz] at hr hg
  have hn : xs.set (i : Int).toNat x = xs.set i x := rfl
  rw [hn] at hr
  obtain ⟨_, inner, ho, hri⟩ := h
  obtain ⟨hin, ho2⟩ := ho
  rcases ho2 with ⟨hv, _⟩ | ⟨g', cap', cur, hv, hb, hh, hnc', hcm, hcs, ht⟩
  · cases hv
  injection hv with ha _ hc
  injection ha with ha
  injection ha with hgg
  subst hgg; subst hc
  have hfit : i * 3 + 3 ≤ cur.size := by
    rw [hcs]
    show i * 3 + 3 ≤ c * 3
    omega
  refine ⟨hr, hg, fun v hv => ?_⟩
  exact run_store_run 58 v _ hh hv (by kernel_rfl) hfit (by intro q hq; simp at hq; rcases hq with rfl | rfl | rfl <;> rfl)
/-- Element i of a row is written whole. -/
theorem wrE {W : World} {base g n c : Nat} {xs : List S60} (h : Kd.R k60 60 W base (fun _ => True) (.slice (some ⟨g, 0, none⟩) n c) xs) (i : Nat) (hi : i < n) (x : S60) :
    Kd.R k60 60 (W.setCells g (i * 3) [.int .u64 x.f0, .int .u64 x.f1, .string x.f2]) base (fun _ => True) (.slice (some ⟨g, 0, none⟩) n c) (xs.set i x)
    ∧ W.grownBy (W.setCells g (i * 3) [.int .u64 x.f0, .int .u64 x.f1, .string x.f2]) (some g)
    ∧ ∀ (v : Value), v.cells.toList = [.int .u64 x.f0, .int .u64 x.f1, .string x.f2] → (Instr.storeAt 60 (.pointer (some ⟨g, i * 3, none⟩)) v).run Tryd.prog W = .ok () (W.setCells g (i * 3) [.int .u64 x.f0, .int .u64 x.f1, .string x.f2]) := by
  obtain ⟨hl, hnc, hC⟩ := Kd.R_reads' h
  obtain ⟨ad, cs, e1, e2, e3, e4⟩ := ReadsRow.get_ hC z60 (i : Int) (by omega) (by omega)
  obtain rfl := Option.some.inj e1
  have hs := Kd.R_seg (okp := fun _ => False) (x' := x) (seg := [.int .u64 x.f0, .int .u64 x.f1, .string x.f2]) (j := 0) h (i : Int) (by omega) (by omega) e2 (fun j u hu => by have := e4 j u hu; rwa [add_plain] at this) (show 0 + 3 ≤ 3 by omega) (by
    have e : cs.drop (0 + 3) = [] := List.drop_of_length_le (by rw [e2]; decide)
    show k60.M W base (fun _ => False) x (cs.take 0 ++ [.int .u64 x.f0, .int .u64 x.f1, .string x.f2] ++ cs.drop (0 + 3))
    rw [e]
    exact k60_mkM _ _ _ x) (fun _ hk => hk.elim)
  obtain ⟨hr, hg⟩ := hs
  have hz : ((i : Int).toNat * k60.sz + 0) = i * 3 := rfl
  rw [hz] at hr hg
  have hn : xs.set (i : Int).toNat x = xs.set i x := rfl
  rw [hn] at hr
  obtain ⟨_, inner, ho, hri⟩ := h
  obtain ⟨hin, ho2⟩ := ho
  rcases ho2 with ⟨hv, _⟩ | ⟨g', cap', cur, hv, hb, hh, hnc', hcm, hcs, ht⟩
  · cases hv
  injection hv with ha _ hc
  injection ha with ha
  injection ha with hgg
  subst hgg; subst hc
  have hfit : i * 3 + 3 ≤ cur.size := by
    rw [hcs]
    show i * 3 + 3 ≤ c * 3
    omega
  refine ⟨hr, hg, fun v hv => ?_⟩
  exact run_store_run 60 v _ hh hv (by kernel_rfl) hfit (by intro q hq; simp at hq; rcases hq with rfl | rfl | rfl <;> rfl)
end Go.Proofs.YtejjidggnnhgjaaDoor.HImL
/- named, of layer 12's statements: a manifest's list written full and made longer touches that list alone. -/
set_option linter.unusedVariables false
set_option linter.unusedSimpArgs false
namespace Go.Proofs.YtejjidggnnhgjaaDoor.HImNm
open Go.RowKit Go.Proofs.YtejjidggnnhgjaaDoor.PImg Go.Proofs.YtejjidggnnhgjaaDoor.HImP Go.Proofs.YtejjidggnnhgjaaDoor.HImD Go.Proofs.YtejjidggnnhgjaaDoor.HImL Go.Proofs.YtejjidggnnhgjaaDoorW.PrintWords Go.Proofs.YtejjidggnnhgjaaDoorW.PrintLast Go.Proofs.YtejjidggnnhgjaaDoorW.PrintMore Go.Proofs.YtejjidggnnhgjaaDoor.HCore
theorem own_form {X : Type} {k : Kd X} {tX : TypeId} {W : World} {base n c : Nat} {A : Option Addr} {xs : List X} {ok : Nat → Prop} (h : Kd.R k tX W base ok (.slice A n c) xs) : (A = none ∧ n = 0 ∧ c = 0) ∨ ∃ g, A = some ⟨g, 0, none⟩ := by
  obtain ⟨_, inner, ho, _⟩ := h
  rcases ho.2 with ⟨hv, _⟩ | ⟨g, cap, cur, hv, _⟩
  · injection hv with h1 h2 h3
    exact Or.inl ⟨h1, h2, h3⟩
  · injection hv with h1 _ _
    exact Or.inr ⟨g, h1⟩
theorem sl_form {X : Type} {k : Kd X} {tX : TypeId} {W : World} {base : Nat} {v : Value} {xs : List X} {ok : Nat → Prop} (h : Kd.R k tX W base ok v xs) : ∃ A c n, n = xs.length ∧ v = .slice A n c := by
  obtain ⟨A, c, hv⟩ := Kd.R_slice h
  exact ⟨A, c, _, rfl, hv⟩
end Go.Proofs.YtejjidggnnhgjaaDoor.HImNm
/- backwards, of layer 12's statements: the lists of a pair turned round where they lie. -/
set_option linter.unusedVariables false
set_option linter.unusedSimpArgs false
namespace Go.Proofs.YtejjidggnnhgjaaDoor.HImBk
open Go.RowKit Go.Proofs.YtejjidggnnhgjaaDoor.PImg Go.Proofs.YtejjidggnnhgjaaDoor.HImP Go.Proofs.YtejjidggnnhgjaaDoor.HImD Go.Proofs.YtejjidggnnhgjaaDoor.HImL Go.Proofs.YtejjidggnnhgjaaDoor.HImNm Go.Proofs.YtejjidggnnhgjaaDoorW.PrintWords Go.Proofs.YtejjidggnnhgjaaDoorW.PrintLast Go.Proofs.YtejjidggnnhgjaaDoorW.PrintMore Go.Proofs.YtejjidggnnhgjaaDoor.HCore
/-- The cells of element i of a row. -/
theorem clD {W : World} {base g n c : Nat} {xs : List SD} (h : Kd.R k58 58 W base (fun _ => True) (.slice (some ⟨g, 0, none⟩) n c) xs) (i : Nat) (hi : i < n) :
    W.cell? ⟨g, i * 3, none⟩ = some (.int .u64 (xs.getD i z58).f0) ∧ W.cell? ⟨g, i * 3 + 1, none⟩ = some (.string (xs.getD i z58).f1) ∧ W.cell? ⟨g, i * 3 + 2, none⟩ = some (.string (xs.getD i z58).f2) := by
  obtain ⟨hl, hnc, hC⟩ := Kd.R_reads' h
  obtain ⟨ad, cs, e1, e2, e3, e4⟩ := ReadsRow.get_ hC z58 (i : Int) (by omega) (by omega)
  obtain rfl := Option.some.inj e1
  have e5 : k58.K W (xs.getD i z58) cs := e3
  obtain rfl := k58_open e5
  have f0 := e4 0 _ rfl
  have f1 := e4 1 _ rfl
  have f2 := e4 2 _ rfl
  rw [add_plain] at f0 f1 f2
  exact ⟨f0, f1, f2⟩
theorem clE {W : World} {base g n c : Nat} {xs : List SE} (h : Kd.R k60 60 W base (fun _ => True) (.slice (some ⟨g, 0, none⟩) n c) xs) (i : Nat) (hi : i < n) :
    W.cell? ⟨g, i * 3, none⟩ = some (.int .u64 (xs.getD i z60).f0) ∧ W.cell? ⟨g, i * 3 + 1, none⟩ = some (.int .u64 (xs.getD i z60).f1) ∧ W.cell? ⟨g, i * 3 + 2, none⟩ = some (.string (xs.getD i z60).f2) := by
  obtain ⟨hl, hnc, hC⟩ := Kd.R_reads' h
  obtain ⟨ad, cs, e1, e2, e3, e4⟩ := ReadsRow.get_ hC z60 (i : Int) (by omega) (by omega)
  obtain rfl := Option.some.inj e1
  have e5 : k60.K W (xs.getD i z60) cs := e3
  obtain rfl := k60_open e5
  have f0 := e4 0 _ rfl
  have f1 := e4 1 _ rfl
  have f2 := e4 2 _ rfl
  rw [add_plain] at f0 f1 f2
  exact ⟨f0, f1, f2⟩
theorem frz {X : Type} {k : Kd X} {tX : TypeId} {W : World} {base g n c : Nat} {xs : List X} {ok : Nat → Prop} (h : Kd.R k tX W base ok (.slice (some ⟨g, 0, none⟩) n c) xs) (j : Nat) : W.frozen? ⟨g, j, none⟩ = false := by
  obtain ⟨_, inner, ho, _⟩ := h
  obtain ⟨cells, hh⟩ := own_typed ho g rfl
  exact blk_frozen hh j
/-- Nothing that was there has been touched but two blocks. -/
structure Two (w W : World) (r1 r2 : Option Nat) : Prop where
  os : W.os = w.os
  tape : W.tape = w.tape
  output : W.output = w.output
  size : w.heap.size ≤ W.heap.size
  block : ∀ k, k < w.heap.size → some k ≠ r1 → some k ≠ r2 → W.heap[k]? = w.heap[k]?
theorem Two.refl (w : World) (r1 r2 : Option Nat) : Two w w r1 r2 := ⟨rfl, rfl, rfl, Nat.le_refl _, fun _ _ _ _ => rfl⟩
theorem Two.below {w W W' : World} {r1 r2 : Option Nat} (h : Two w W r1 r2) (hb : Below W.heap.size W W') : Two w W' r1 r2 :=
  ⟨hb.os.trans h.os, hb.tape.trans h.tape, hb.output.trans h.output, Nat.le_trans h.size hb.size, fun k hk h1 h2 => (hb.block k (Nat.lt_of_lt_of_le hk h.size)).trans (h.block k hk h1 h2)⟩
theorem Two.grown {w W W' : World} {r1 r2 r : Option Nat} (h : Two w W r1 r2) (hg : W.grownBy W' r) (hr : r = r1 ∨ r = r2 ∨ ∃ b, r = some b ∧ w.heap.size ≤ b) : Two w W' r1 r2 := by
  refine ⟨hg.os.trans h.os, hg.tape.trans h.tape, hg.output.trans h.output, Nat.le_trans h.size hg.size, fun k hk h1 h2 => (hg.block k (Nat.lt_of_lt_of_le hk h.size) (fun e => ?_)).trans (h.block k hk h1 h2)⟩
  rcases hr with hr | hr | ⟨b, hr, hle⟩
  · exact h1 (e.trans hr)
  · exact h2 (e.trans hr)
  · rw [hr] at e
    injection e with e
    omega
theorem Two.set {w W : World} {r1 r2 : Option Nat} (h : Two w W r1 r2) {p : Addr} (hp : w.heap.size ≤ p.block) (v : Value) : Two w (W.setCell p v) r1 r2 :=
  ⟨h.os, h.tape, h.output, by simpa [World.setCell] using h.size, fun k hk h1 h2 => (Below.heap_setCell W p v k (by omega)).trans (h.block k hk h1 h2)⟩
section
variable {W W' : World} {base : Nat}
theorem ty_far {X Y : Type} {d : Kd X} {d' : Kd Y} {t t' : TypeId} {v u : Value} {xs : List X} {ys : List Y} (h : Kd.R d t W base (fun _ => True) v xs) (hu : Kd.R d' t' W base (fun _ => True) u ys) (ht : ∀ q, q ∈ t :: d.E → q ≠ t') (hg : W.grownBy W' u.ownBlock) : Kd.R d t W' base (fun _ => True) v xs := by
  cases hb : u.ownBlock with
  | none => rw [hb] at hg; exact Kd.R_grown h hg (fun k _ e => by cases e)
  | some g =>
    obtain ⟨cells, hc⟩ := own_typed (Kd.R_own hu).choose_spec g hb
    rw [hb] at hg
    exact Kd.R_mono (Kd.R_grown (Kd.R_types h hc ht) hg (fun k hk e => hk.2 (Option.some.inj e))) (fun _ _ => trivial)
theorem or3 {a : Option Nat} {c d : Option Nat} {n : Nat} (h : a = c ∨ ∃ b, a = some b ∧ n ≤ b) : a = c ∨ a = d ∨ ∃ b, a = some b ∧ n ≤ b := by
  rcases h with h | h
  · exact Or.inl h
  · exact Or.inr (Or.inr h)
theorem or3' {a : Option Nat} {c d : Option Nat} {n : Nat} (h : a = d ∨ ∃ b, a = some b ∧ n ≤ b) : a = c ∨ a = d ∨ ∃ b, a = some b ∧ n ≤ b := by
  rcases h with h | h
  · exact Or.inr (Or.inl h)
  · exact Or.inr (Or.inr h)
end
/-- The parameter's block and both lists. -/
structure Bw (w : World) (base : Nat) (A1 : Option Addr) (n1 c1 : Nat) (A2 : Option Addr) (n2 c2 : Nat) (cs : Array Value) (l1 : List SD) (l2 : List SE) (W : World) : Prop where
  bel : Below base w W
  own1 : Kd.R k58 58 W base (fun _ => True) (.slice A1 n1 c1) l1
  own2 : Kd.R k60 60 W base (fun _ => True) (.slice A2 n2 c2) l2
  box : W.heap[w.heap.size]? = some (.cells cs 46 (0, 0))
  hb : base ≤ w.heap.size
  bnd : ∀ x ∈ l1, x.f2.size ≤ 140737488351232
  two : Two w W (Value.slice A1 n1 c1).ownBlock (Value.slice A2 n2 c2).ownBlock
section
variable {w : World} {base : Nat} {A1 A2 : Option Addr} {n1 c1 n2 c2 g : Nat} {cs : Array Value} {l1 : List SD} {l2 : List SE} {W : World}
theorem Bw.step (h : Bw w base A1 n1 c1 A2 n2 c2 cs l1 l2 W) {W' : World} (hb : Below W.heap.size W W') : Bw w base A1 n1 c1 A2 n2 c2 cs l1 l2 W' :=
  ⟨below_then h.bel (Nat.le_trans h.hb h.bel.size) hb, Kd.R_below h.own1 hb, Kd.R_below h.own2 hb, (hb.block _ (blk_lt h.box)).trans h.box, h.hb, h.bnd, h.two.below hb⟩
theorem Bw.drew (h : Bw w base A1 n1 c1 A2 n2 c2 cs l1 l2 W) : Bw w base A1 n1 c1 A2 n2 c2 cs l1 l2 W.drew := h.step (below_drew (Below.refl _ _))
theorem Bw.set1 (h : Bw w base (some ⟨g, 0, none⟩) n1 c1 A2 n2 c2 cs l1 l2 W) (i : Nat) (hi : i < n1) (x : SD) (hx : x.f2.size ≤ 140737488351232) : Bw w base (some ⟨g, 0, none⟩) n1 c1 A2 n2 c2 cs (l1.set i x) l2 (W.setCells g (i * 3) [.int .u64 x.f0, .string x.f1, .string x.f2]) := by
  obtain ⟨h1, h2, _⟩ := wrD h.own1 i hi x
  obtain ⟨cells, ht⟩ := own_typed (Kd.R_own h.own1).choose_spec g rfl
  have hbx : some w.heap.size ≠ (some g) := Kd.R_ne h.own1 h.box (by decide)
  refine ⟨h.bel.grown h2 (Nat.le_trans h.hb h.bel.size) (fun k hk => ?_), h1, ?_, (h2.block _ (blk_lt h.box) hbx).trans h.box, h.hb, fun y hy => ?_, h.two.grown h2 (Or.inl rfl)⟩
  · exact Kd.R_base h.own1 k hk
  · exact Kd.R_mono (Kd.R_grown (Kd.R_types h.own2 ht (by decide)) h2 (fun k hk e => hk.2 (Option.some.inj e))) (fun _ _ => trivial)
  · rcases List.mem_or_eq_of_mem_set hy with hy | rfl
    · exact h.bnd y hy
    · exact hx
theorem Bw.set2 (h : Bw w base A1 n1 c1 (some ⟨g, 0, none⟩) n2 c2 cs l1 l2 W) (i : Nat) (hi : i < n2) (x : SE) : Bw w base A1 n1 c1 (some ⟨g, 0, none⟩) n2 c2 cs l1 (l2.set i x) (W.setCells g (i * 3) [.int .u64 x.f0, .int .u64 x.f1, .string x.f2]) := by
  obtain ⟨h1, h2, _⟩ := wrE h.own2 i hi x
  obtain ⟨cells, ht⟩ := own_typed (Kd.R_own h.own2).choose_spec g rfl
  have hbx : some w.heap.size ≠ (some g) := Kd.R_ne h.own2 h.box (by decide)
  refine ⟨h.bel.grown h2 (Nat.le_trans h.hb h.bel.size) (fun k hk => ?_), ?_, h1, (h2.block _ (blk_lt h.box) hbx).trans h.box, h.hb, h.bnd, h.two.grown h2 (Or.inr (Or.inl rfl))⟩
  · exact Kd.R_base h.own2 k hk
  · exact Kd.R_mono (Kd.R_grown (Kd.R_types h.own1 ht (by decide)) h2 (fun k hk e => hk.2 (Option.some.inj e))) (fun _ _ => trivial)
theorem Bw.len1 (h : Bw w base A1 n1 c1 A2 n2 c2 cs l1 l2 W) : n1 = l1.length := (Kd.R_reads' h.own1).1
theorem Bw.at1 (h : Bw w base A1 n1 c1 A2 n2 c2 cs l1 l2 W) (i : Nat) (hi : i < n1) : (l1.getD i z58).f2.size ≤ 140737488351232 := by
  have hl := h.len1
  rw [List.getD_eq_getElem?_getD, List.getElem?_eq_getElem (by omega), Option.getD_some]
  exact h.bnd _ (List.getElem_mem _)
end
/-- What is left behind: lists, as long, in the same rows. -/
structure Bk (w : World) (base : Nat) (A1 : Option Addr) (n1 c1 : Nat) (A2 : Option Addr) (n2 c2 : Nat) (W : World) : Prop where
  bel : Below base w W
  two : Two w W (Value.slice A1 n1 c1).ownBlock (Value.slice A2 n2 c2).ownBlock
  ex : ∃ (l1 : List SD) (l2 : List SE), Kd.R k58 58 W base (fun _ => True) (.slice A1 n1 c1) l1 ∧ Kd.R k60 60 W base (fun _ => True) (.slice A2 n2 c2) l2 ∧ ∀ x ∈ l1, x.f2.size ≤ 140737488351233
theorem Bw.done {w : World} {base : Nat} {A1 A2 : Option Addr} {n1 c1 n2 c2 : Nat} {cs : Array Value} {l1 : List SD} {l2 : List SE} {W : World} (h : Bw w base A1 n1 c1 A2 n2 c2 cs l1 l2 W) : Bk w base A1 n1 c1 A2 n2 c2 W :=
  ⟨h.bel, h.two, l1, l2, h.own1, h.own2, fun x hx => by have := h.bnd x hx; omega⟩
theorem Bw.longer {w : World} {base : Nat} {A2 : Option Addr} {c1 n2 c2 g : Nat} {cs : Array Value} {l1 : List SD} {l2 : List SE} {W : World} (h : Bw w base (some ⟨g, 0, none⟩) 1 c1 A2 n2 c2 cs l1 l2 W) (s : ByteArray) (hs : s.size ≤ 140737488351233) : Bk w base (some ⟨g, 0, none⟩) 1 c1 A2 n2 c2 (W.setCell ⟨g, 2, none⟩ (.string s)).drew := by
  obtain ⟨hl, hnc, hC⟩ := Kd.R_reads' h.own1
  obtain ⟨ad, cs, e1, e2, e3, e4⟩ := ReadsRow.get_ hC z58 (0 : Int) (by omega) (by omega)
  obtain rfl := Option.some.inj e1
  have e5 := k58_open e3
  obtain ⟨hr, hg⟩ := Kd.R_seg (okp := fun _ => False) (x' := (⟨(rd_T58 l1 0).f0, (rd_T58 l1 0).f1, s⟩ : SD)) (seg := [.string s]) (j := 2) h.own1 (0 : Int) (by omega) (by omega) e2 (fun j u hu => by have := e4 j u hu; rwa [add_plain] at this) (show 2 + 1 ≤ 3 by omega) (by
    rw [e5]
    exact k58_mkM _ _ _ (⟨(rd_T58 l1 0).f0, (rd_T58 l1 0).f1, s⟩ : SD)) (fun _ hk => hk.elim)
  have hw : W.setCells g ((0 : Int).toNat * k58.sz + 2) [.string s] = W.setCell ⟨g, 2, none⟩ (.string s) := rfl
  rw [hw] at hr hg
  obtain ⟨cells, ht⟩ := own_typed (Kd.R_own h.own1).choose_spec g rfl
  have h0 : Bk w base (some ⟨g, 0, none⟩) 1 c1 A2 n2 c2 (W.setCell ⟨g, 2, none⟩ (.string s)) := by
    refine ⟨h.bel.grown hg (Nat.le_trans h.hb h.bel.size) (fun k hk => Kd.R_base h.own1 k hk), h.two.grown hg (Or.inl rfl), _, l2, hr, Kd.R_mono (Kd.R_grown (Kd.R_types h.own2 ht (by decide)) hg (fun k hk e => hk.2 (Option.some.inj e))) (fun _ _ => trivial), fun y hy => ?_⟩
    rcases List.mem_or_eq_of_mem_set hy with hy | rfl
    · have := h.bnd y hy; omega
    · exact hs
  obtain ⟨q1, qt, m1, m2, q2, q3, q4⟩ := h0
  exact ⟨below_drew q1, qt.below (below_drew (Below.refl _ _)), m1, m2, Kd.R_drew q2, Kd.R_drew q3, q4⟩
set_option maxRecDepth 100000 in
set_option maxHeartbeats 8000000 in
theorem back_any (id lo hi gen : Int) (A1 : Option Addr) (n1 c1 : Nat) (ds : List SD) (A2 : Option Addr) (n2 c2 : Nat) (es : List SE) (w : World) (base : Nat) (hR1 : Kd.R k58 58 w base (fun _ => True) (.slice A1 n1 c1) ds) (hR2 : Kd.R k60 60 w base (fun _ => True) (.slice A2 n2 c2) es) (hb : base ≤ w.heap.size) (h1 : ds.length ≤ 4611686018427) (h2 : es.length ≤ 4611686018427) (hs : ∀ x ∈ ds, x.f2.size ≤ 140737488351232) :
    Calls Tryd.prog 19 #[.agg #[.int .i64 id, .int .u64 lo, .int .u64 hi, .slice A1 n1 c1, .int .i64 gen, .slice A2 n2 c2]] w fun e w' => e = .returned (.tuple #[]) ∧ Bk w base A1 n1 c1 A2 n2 c2 w' := by
  have hn1 : n1 = ds.length := (Kd.R_reads' hR1).1
  have hn2 : n2 = es.length := (Kd.R_reads' hR2).1
  have h1' : n1 ≤ 4611686018427 := by omega
  have h2' : n2 ≤ 4611686018427 := by omega
  have HN : Aside0 (Bw w base A1 n1 c1 A2 n2 c2 #[.int .i64 id, .int .u64 lo, .int .u64 hi, .slice A1 n1 c1, .int .i64 gen, .slice A2 n2 c2] ds es (w.alloc (.cells #[.int .i64 id, .int .u64 lo, .int .u64 hi, .slice A1 n1 c1, .int .i64 gen, .slice A2 n2 c2] 46))) :=
    ⟨⟨(Below.refl _ _).alloc hb _, Kd.R_below hR1 (below_alloc (Below.refl _ _) _), Kd.R_below hR2 (below_alloc (Below.refl _ _) _), heap_alloc_new _ _, hb, hs, (Two.refl _ _ _).below (below_alloc (Below.refl _ _) _)⟩⟩
  clear hR1 hR2 hs hn1 hn2 h1 h2
  go_enter Tryd.func19, Tryd.ntmps19
  have c3 : _ = some (Value.slice A1 n1 c1) := (blk_cell HN.out.box 3).trans rfl
  have c5 : _ = some (Value.slice A2 n2 c2) := (blk_cell HN.out.box 5).trans rfl
  go_wp2
  go_loopw [3] (fun v3 wr => ∃ (k : Nat) (l : List SD), k ≤ n1 ∧ v3 = .int .i64 (k : Int) ∧ Aside0 (Bw w base A1 n1 c1 A2 n2 c2 #[.int .i64 id, .int .u64 lo, .int .u64 hi, .slice A1 n1 c1, .int .i64 gen, .slice A2 n2 c2] l es wr)) (fun v3 _ => n1 - (intOf v3).toNat)
  case atStart => exact ⟨0, ds, by omega, rfl, HN⟩
  case round =>
    clear HN c3 c5
    obtain ⟨i, l, hki, rfl, HN⟩ := hrel
    have c3 : _ = some (Value.slice A1 n1 c1) := (blk_cell HN.out.box 3).trans rfl
    by_cases hlt : (i : Int) < (n1 : Int) / 2
    · obtain ⟨g, rfl⟩ : ∃ g, A1 = some ⟨g, 0, none⟩ := by
        rcases own_form HN.out.own1 with ⟨_, h2, _⟩ | h
        · omega
        · exact h
      obtain ⟨j, hj⟩ : ∃ j : Nat, n1 = i + 1 + j := ⟨n1 - i - 1, by omega⟩
      obtain ⟨a0, a1, a2⟩ := clD HN.out.own1 i (by omega)
      obtain ⟨b0, b1, b2⟩ := clD HN.out.own1 j (by omega)
      have fa0 := frz HN.out.own1 (i * 3)
      have fa1 := frz HN.out.own1 (i * 3 + 1)
      have fa2 := frz HN.out.own1 (i * 3 + 2)
      have fb0 := frz HN.out.own1 (j * 3)
      have fb1 := frz HN.out.own1 (j * 3 + 1)
      have fb2 := frz HN.out.own1 (j * 3 + 2)
      have e0 : (n1 : Int) - 1 - (i : Int) = (j : Int) := by omega
      have j0 : (0 : Int) ≤ (j : Int) := by omega
      have j1 : (j : Int) < (n1 : Int) := by omega
      have i0 : (0 : Int) ≤ (i : Int) := by omega
      have i1 : (i : Int) < (n1 : Int) := by omega
      have hij : i < j := by omega
      clear hj
      go_wp2
      have hx := HN.out.at1 i (by omega)
      have hy := HN.out.at1 j (by omega)
      generalize (l.getD i z58) = x at a0 a1 a2 hx
      generalize (l.getD j z58) = y at b0 b1 b2 hy
      have HX := Aside0.mk hx
      have HY := Aside0.mk hy
      clear hx hy
      have gne : w.heap.size ≠ g := fun e => Kd.R_ne HN.out.own1 HN.out.box (by decide) (by rw [e]; rfl)
      have gne2 : g ≠ w.heap.size := fun e => gne e.symm
      have oij : i * 3 ≠ j * 3 := by omega
      go_region
      have HN2 := Aside0.mk ((HN.out.set1 i (by omega) y HY.out).set1 j (by omega) x HX.out).drew
      clear HN
      go_wp2
      go_roundw
      case rel => exact ⟨i + 1, _, by omega, by go_num, HN2⟩
      case measure => simp [intOf]; omega
    · have c5 : _ = some (Value.slice A2 n2 c2) := (blk_cell HN.out.box 5).trans rfl
      go_wp2
      clear hlt c3 c5
      go_loopw [4] (fun v4 wr => ∃ (k : Nat) (l2 : List SE), k ≤ n2 ∧ v4 = .int .i64 (k : Int) ∧ Aside0 (Bw w base A1 n1 c1 A2 n2 c2 #[.int .i64 id, .int .u64 lo, .int .u64 hi, .slice A1 n1 c1, .int .i64 gen, .slice A2 n2 c2] l l2 wr)) (fun v4 _ => n2 - (intOf v4).toNat)
      case atStart => exact ⟨0, es, by omega, rfl, HN⟩
      case round =>
        clear HN
        obtain ⟨i2, l2, hi2, rfl, HN⟩ := hrel
        have c5 : _ = some (Value.slice A2 n2 c2) := (blk_cell HN.out.box 5).trans rfl
        by_cases hlt : (i2 : Int) < (n2 : Int) / 2
        · obtain ⟨g, rfl⟩ : ∃ g, A2 = some ⟨g, 0, none⟩ := by
            rcases own_form HN.out.own2 with ⟨_, h2, _⟩ | h
            · omega
            · exact h
          obtain ⟨j, hj⟩ : ∃ j : Nat, n2 = i2 + 1 + j := ⟨n2 - i2 - 1, by omega⟩
          obtain ⟨a0, a1, a2⟩ := clE HN.out.own2 i2 (by omega)
          obtain ⟨b0, b1, b2⟩ := clE HN.out.own2 j (by omega)
          have fa0 := frz HN.out.own2 (i2 * 3)
          have fa1 := frz HN.out.own2 (i2 * 3 + 1)
          have fa2 := frz HN.out.own2 (i2 * 3 + 2)
          have fb0 := frz HN.out.own2 (j * 3)
          have fb1 := frz HN.out.own2 (j * 3 + 1)
          have fb2 := frz HN.out.own2 (j * 3 + 2)
          have e0 : (n2 : Int) - 1 - (i2 : Int) = (j : Int) := by omega
          have j0 : (0 : Int) ≤ (j : Int) := by omega
          have j1 : (j : Int) < (n2 : Int) := by omega
          have i0 : (0 : Int) ≤ (i2 : Int) := by omega
          have i1 : (i2 : Int) < (n2 : Int) := by omega
          have hij : i2 < j := by omega
          clear hj
          go_wp2
          generalize (l2.getD i2 z60) = x at a0 a1 a2
          generalize (l2.getD j z60) = y at b0 b1 b2
          have gne : w.heap.size ≠ g := fun e => Kd.R_ne HN.out.own2 HN.out.box (by decide) (by rw [e]; rfl)
          have gne2 : g ≠ w.heap.size := fun e => gne e.symm
          have oij : i2 * 3 ≠ j * 3 := by omega
          go_region
          have HN2 := Aside0.mk ((HN.out.set2 i2 (by omega) y).set2 j (by omega) x).drew
          clear HN
          go_wp2
          go_roundw
          case rel => exact ⟨i2 + 1, _, by omega, by go_num, HN2⟩
          case measure => simp [intOf]; omega
        · have c3 : _ = some (Value.slice A1 n1 c1) := (blk_cell HN.out.box 3).trans rfl
          by_cases h1 : n1 = 1
          · subst h1
            obtain ⟨g, rfl⟩ : ∃ g, A1 = some ⟨g, 0, none⟩ := by
              rcases own_form HN.out.own1 with ⟨_, h2, _⟩ | h
              · omega
              · exact h
            obtain ⟨_, _, a2⟩ := clD HN.out.own1 0 (by omega)
            have fa2 := frz HN.out.own1 2
            have hx := HN.out.at1 0 (by omega)
            rw [show 0 * 3 + 2 = 2 from rfl] at a2
            have HN1 := HN
            generalize hxe : (l.getD 0 z58) = x at a2 hx
            have HX := Aside0.mk hxe
            clear hxe
            have gne : w.heap.size ≠ g := fun e => Kd.R_ne HN.out.own1 HN.out.box (by decide) (by rw [e]; rfl)
            have gne2 : g ≠ w.heap.size := fun e => gne e.symm
            go_wp2
            go_region
            have HN2 := Aside0.mk (HN.out.longer (x.f2 ++ ⟨#[120]⟩) (by rw [app_size]; show x.f2.size + 1 ≤ 140737488351233; omega))
            clear HN HN1 a2 fa2
            go_wp2
            go_end0
            exact ⟨rfl, HN2.out⟩
          · have hone : ((n1 : Int) == 1) = false := by rw [beq_eq_false_iff_ne]; omega
            go_wp2
            go_end0
            exact ⟨rfl, HN.out.done⟩
end Go.Proofs.YtejjidggnnhgjaaDoor.HImBk
/- marked, of layer 12's statements: a pair's lists written full and made longer touch those lists alone. -/
set_option linter.unusedVariables false
set_option linter.unusedSimpArgs false
namespace Go.Proofs.YtejjidggnnhgjaaDoor.HImMk
open Go.RowKit Go.Proofs.YtejjidggnnhgjaaDoor.PImg Go.Proofs.YtejjidggnnhgjaaDoor.HImP Go.Proofs.YtejjidggnnhgjaaDoor.HImD Go.Proofs.YtejjidggnnhgjaaDoor.HImL Go.Proofs.YtejjidggnnhgjaaDoor.HImNm Go.Proofs.YtejjidggnnhgjaaDoor.HImBk Go.Proofs.YtejjidggnnhgjaaDoorW.PrintWords Go.Proofs.YtejjidggnnhgjaaDoorW.PrintLast Go.Proofs.YtejjidggnnhgjaaDoorW.PrintMore Go.Proofs.YtejjidggnnhgjaaDoor.HCore
/-- The parameter's block and both lists. -/
structure Mw (w : World) (base : Nat) (v1 v2 : Value) (cs : Array Value) (u1 u2 : Value) (l1 : List SD) (l2 : List SE) (W : World) : Prop where
  two : Two w W v1.ownBlock v2.ownBlock
  bel : Below base w W
  own1 : Kd.R k58 58 W base (fun _ => True) u1 l1
  own2 : Kd.R k60 60 W base (fun _ => True) u2 l2
  box : W.heap[w.heap.size]? = some (.cells cs 46 (0, 0))
  hb : base ≤ w.heap.size
  b1 : u1.ownBlock = v1.ownBlock ∨ ∃ b, u1.ownBlock = some b ∧ w.heap.size ≤ b
  b2 : u2.ownBlock = v2.ownBlock ∨ ∃ b, u2.ownBlock = some b ∧ w.heap.size ≤ b
section
variable {w : World} {base : Nat} {v1 v2 u1 u2 u1' u2' : Value} {cs : Array Value} {l1 l1' : List SD} {l2 l2' : List SE} {W W' : World}
theorem Mw.step (h : Mw w base v1 v2 cs u1 u2 l1 l2 W) (hb : Below W.heap.size W W') : Mw w base v1 v2 cs u1 u2 l1 l2 W' :=
  ⟨h.two.below hb, below_then h.bel (Nat.le_trans h.hb h.bel.size) hb, Kd.R_below h.own1 hb, Kd.R_below h.own2 hb, (hb.block _ (blk_lt h.box)).trans h.box, h.hb, h.b1, h.b2⟩
theorem blk_or {a a' c : Option Nat} {n m : Nat} (h : a = c ∨ ∃ b, a = some b ∧ n ≤ b) (hat : a' = a ∨ ∃ b, a' = some b ∧ m ≤ b) (hn : n ≤ m) : a' = c ∨ ∃ b, a' = some b ∧ n ≤ b := by
  rcases hat with hat | ⟨b, hb, hle⟩
  · rw [hat]; exact h
  · exact Or.inr ⟨b, hb, by omega⟩
theorem Mw.grow1 (h : Mw w base v1 v2 cs u1 u2 l1 l2 W) (hg : W.grownBy W' u1.ownBlock) (ho : Kd.R k58 58 W' base (fun _ => True) u1' l1') (hat : u1'.ownBlock = u1.ownBlock ∨ ∃ b, u1'.ownBlock = some b ∧ W.heap.size ≤ b) : Mw w base v1 v2 cs u1' u2 l1' l2 W' :=
  ⟨h.two.grown hg (or3 h.b1), h.bel.grown hg (Nat.le_trans h.hb h.bel.size) (fun k hk => Kd.R_base h.own1 k hk), ho, ty_far h.own2 h.own1 (by decide) hg, (hg.block _ (blk_lt h.box) (Kd.R_ne h.own1 h.box (by decide))).trans h.box, h.hb, blk_or h.b1 hat h.two.size, h.b2⟩
theorem Mw.grow2 (h : Mw w base v1 v2 cs u1 u2 l1 l2 W) (hg : W.grownBy W' u2.ownBlock) (ho : Kd.R k60 60 W' base (fun _ => True) u2' l2') (hat : u2'.ownBlock = u2.ownBlock ∨ ∃ b, u2'.ownBlock = some b ∧ W.heap.size ≤ b) : Mw w base v1 v2 cs u1 u2' l1 l2' W' :=
  ⟨h.two.grown hg (or3' h.b2), h.bel.grown hg (Nat.le_trans h.hb h.bel.size) (fun k hk => Kd.R_base h.own2 k hk), ty_far h.own1 h.own2 (by decide) hg, ho, (hg.block _ (blk_lt h.box) (Kd.R_ne h.own2 h.box (by decide))).trans h.box, h.hb, h.b1, blk_or h.b2 hat h.two.size⟩
theorem Mw.put (h : Mw w base v1 v2 cs u1 u2 l1 l2 W) (j : Nat) (u : Value) : Mw w base v1 v2 (cs.setIfInBounds j u) u1 u2 l1 l2 (W.setCell ⟨w.heap.size, j, none⟩ u) :=
  ⟨h.two.set (p := ⟨w.heap.size, j, none⟩) (Nat.le_refl _) u, h.bel.setCell (p := ⟨w.heap.size, j, none⟩) h.hb u, Kd.R_set h.own1 h.box (by decide) j u, Kd.R_set h.own2 h.box (by decide) j u, blk_set h.box j u, h.hb, h.b1, h.b2⟩
theorem Mw.put1 {g n c : Nat} (h : Mw w base v1 v2 cs (.slice (some ⟨g, 0, none⟩) n c) u2 l1 l2 W) (i : Nat) (hi : i < n) (x : SD) :
    Mw w base v1 v2 cs (.slice (some ⟨g, 0, none⟩) n c) u2 (l1.set i x) l2 (W.setCells g (i * 3) [.int .u64 x.f0, .string x.f1, .string x.f2])
    ∧ ∀ (v : Value), v.cells.toList = [.int .u64 x.f0, .string x.f1, .string x.f2] → (Instr.storeAt 58 (.pointer (some ⟨g, i * 3, none⟩)) v).run Tryd.prog W = .ok () (W.setCells g (i * 3) [.int .u64 x.f0, .string x.f1, .string x.f2]) := by
  obtain ⟨h1, h2, h3⟩ := wrD h.own1 i hi x
  exact ⟨h.grow1 h2 h1 (Or.inl rfl), h3⟩
theorem Mw.put2 {g n c : Nat} (h : Mw w base v1 v2 cs u1 (.slice (some ⟨g, 0, none⟩) n c) l1 l2 W) (i : Nat) (hi : i < n) (x : SE) :
    Mw w base v1 v2 cs u1 (.slice (some ⟨g, 0, none⟩) n c) l1 (l2.set i x) (W.setCells g (i * 3) [.int .u64 x.f0, .int .u64 x.f1, .string x.f2])
    ∧ ∀ (v : Value), v.cells.toList = [.int .u64 x.f0, .int .u64 x.f1, .string x.f2] → (Instr.storeAt 60 (.pointer (some ⟨g, i * 3, none⟩)) v).run Tryd.prog W = .ok () (W.setCells g (i * 3) [.int .u64 x.f0, .int .u64 x.f1, .string x.f2]) := by
  obtain ⟨h1, h2, h3⟩ := wrE h.own2 i hi x
  exact ⟨h.grow2 h2 h1 (Or.inl rfl), h3⟩
end
def xS : ByteArray := ⟨#[120]⟩
def mS : ByteArray := ⟨#[109, 97, 114, 107, 101, 100]⟩
def yS : ByteArray := ⟨#[121]⟩
def oS : ByteArray := ⟨#[109, 111, 114, 101]⟩
set_option maxRecDepth 100000 in
set_option maxHeartbeats 8000000 in
theorem marked_any (id lo hi gen : Int) (A1 : Option Addr) (n1 c1 : Nat) (ds : List SD) (A2 : Option Addr) (n2 c2 : Nat) (es : List SE) (w : World) (base : Nat) (hR1 : Kd.R k58 58 w base (fun _ => True) (.slice A1 n1 c1) ds) (hR2 : Kd.R k60 60 w base (fun _ => True) (.slice A2 n2 c2) es) (hb : base ≤ w.heap.size) (h1 : ds.length ≤ 1000000000) (h2 : es.length ≤ 1000000000) :
    Calls Tryd.prog 22 #[.agg #[.int .i64 id, .int .u64 lo, .int .u64 hi, .slice A1 n1 c1, .int .i64 gen, .slice A2 n2 c2]] w fun e w' => e = .returned (.tuple #[]) ∧ Two w w' (Value.slice A1 n1 c1).ownBlock (Value.slice A2 n2 c2).ownBlock ∧ Below base w w' := by
  have hn1 : n1 = ds.length := (Kd.R_reads' hR1).1
  have hn2 : n2 = es.length := (Kd.R_reads' hR2).1
  subst hn1
  subst hn2
  have HN : Aside0 (Mw w base (.slice A1 ds.length c1) (.slice A2 es.length c2) #[.int .i64 id, .int .u64 lo, .int .u64 hi, .slice A1 ds.length c1, .int .i64 gen, .slice A2 es.length c2] (.slice A1 ds.length c1) (.slice A2 es.length c2) ds es (w.alloc (.cells #[.int .i64 id, .int .u64 lo, .int .u64 hi, .slice A1 ds.length c1, .int .i64 gen, .slice A2 es.length c2] 46))) :=
    ⟨⟨(Two.refl _ _ _).below (below_alloc (Below.refl _ _) _), (Below.refl _ _).alloc hb _, Kd.R_below hR1 (below_alloc (Below.refl _ _) _), Kd.R_below hR2 (below_alloc (Below.refl _ _) _), heap_alloc_new _ _, hb, Or.inl rfl, Or.inl rfl⟩⟩
  have HD : Aside0 (ds.length ≤ 1000000000) := ⟨h1⟩
  have HE : Aside0 (es.length ≤ 1000000000) := ⟨h2⟩
  clear hR1 hR2
  go_enter Tryd.func22, Tryd.ntmps22
  go_wp2
  go_loopw [2] (fun v2 wr => ∃ (k : Nat) (l : List SD), k ≤ ds.length ∧ v2 = .int .i64 (k : Int) ∧ Aside0 (l.length = ds.length) ∧ Aside0 (Mw w base (.slice A1 ds.length c1) (.slice A2 es.length c2) #[.int .i64 id, .int .u64 lo, .int .u64 hi, .slice A1 ds.length c1, .int .i64 gen, .slice A2 es.length c2] (.slice A1 ds.length c1) (.slice A2 es.length c2) l es wr)) (fun v2 _ => ds.length - (intOf v2).toNat)
  case atStart => exact ⟨0, ds, by omega, rfl, ⟨rfl⟩, HN⟩
  case round =>
    clear HN
    obtain ⟨k, l, hk, rfl, HLn, HN⟩ := hrel
    have c3 : _ = some (Value.slice A1 ds.length c1) := (blk_cell HN.out.box 3).trans rfl
    by_cases hlt : k < ds.length
    · obtain ⟨g, rfl⟩ : ∃ g, A1 = some ⟨g, 0, none⟩ := by
        rcases own_form HN.out.own1 with ⟨_, h2, _⟩ | h
        · omega
        · exact h
      obtain ⟨r1, r2⟩ := HN.out.put1 k hlt (⟨(k : Int), xS, mS⟩ : SD)
      have HQ1 := Aside0.mk r1
      have HQ3 := Aside0.mk r2
      clear r1 r2
      go_wp2_with (first | ((with_reducible refine gate_store (t := 58) (p := 18) rfl ?_); go_loud (refine store_event (t := 58) (p := 18) (v := ?vo) (w1 := wr.setCells g (k * 3) [.int .u64 (k : Int), .string xS, .string mS]) ?hg ?ho ?hn ?hr ?_; (case ho => rfl); (case hg => rfl); (case hn => rfl); (case hr => exact store_run rfl (by first | rfl | (go_simp; done) | (go_simp; rfl)) (by rfl) (HQ3.out _ (by rfl))); intro w6 hw; rw [← hw] at HQ1; clear hw)))
      go_roundw
      case rel => exact ⟨k + 1, _, by omega, by go_num, ⟨by rw [List.length_set]; exact HLn.out⟩, ⟨HQ1.out⟩⟩
      case measure => simp [intOf]; omega
    · go_wp2
      clear hlt c3
      go_loopw [3] (fun v3 wr => ∃ (k : Nat) (l2 : List SE), k ≤ es.length ∧ v3 = .int .i64 (k : Int) ∧ Aside0 (l2.length = es.length) ∧ Aside0 (Mw w base (.slice A1 ds.length c1) (.slice A2 es.length c2) #[.int .i64 id, .int .u64 lo, .int .u64 hi, .slice A1 ds.length c1, .int .i64 gen, .slice A2 es.length c2] (.slice A1 ds.length c1) (.slice A2 es.length c2) l l2 wr)) (fun v3 _ => es.length - (intOf v3).toNat)
      case atStart => exact ⟨0, es, by omega, rfl, ⟨rfl⟩, HN⟩
      case round =>
        clear HN
        obtain ⟨k2, l2, hk2, rfl, HLe, HN⟩ := hrel
        have c5 : _ = some (Value.slice A2 es.length c2) := (blk_cell HN.out.box 5).trans rfl
        by_cases hlt : k2 < es.length
        · obtain ⟨g, rfl⟩ : ∃ g, A2 = some ⟨g, 0, none⟩ := by
            rcases own_form HN.out.own2 with ⟨_, h2, _⟩ | h
            · omega
            · exact h
          obtain ⟨r1, r2⟩ := HN.out.put2 k2 hlt (⟨7, (k2 : Int), xS⟩ : SE)
          have HQ1 := Aside0.mk r1
          have HQ3 := Aside0.mk r2
          clear r1 r2
          go_wp2_with (first | ((with_reducible refine gate_store (t := 60) (p := 32) rfl ?_); go_loud (refine store_event (t := 60) (p := 32) (v := ?vo2) (w1 := wr.setCells g (k2 * 3) [.int .u64 7, .int .u64 (k2 : Int), .string xS]) ?hg2 ?ho2 ?hn2 ?hr2 ?_; (case ho2 => rfl); (case hg2 => rfl); (case hn2 => rfl); (case hr2 => exact store_run rfl (by first | rfl | (go_simp; done) | (go_simp; rfl)) (by rfl) (HQ3.out _ (by rfl))); intro w6 hw; rw [← hw] at HQ1; clear hw)))
          go_roundw
          case rel => exact ⟨k2 + 1, _, by omega, by go_num, ⟨by rw [List.length_set]; exact HLe.out⟩, ⟨HQ1.out⟩⟩
          case measure => simp [intOf]; omega
        · go_wp2
          clear hlt c5
          have HL1 : Aside0 (l.length ≤ 1000000000) := ⟨by rw [HLn.out]; exact HD.out⟩
          have HL2 : Aside0 (l2.length ≤ 1000000000) := ⟨by rw [HLe.out]; exact HE.out⟩
          clear HLn HLe HD HE
          have hk20 := hk2
          go_loopw [4] (fun v4 wr => ∃ (i : Nat) (A3 : Option Addr) (m3 q3 : Nat) (A4 : Option Addr) (m4 q4 : Nat) (l : List SD) (l2 : List SE), i ≤ 20 ∧ v4 = .int .i64 (i : Int) ∧ Aside0 (l.length ≤ 1000000000 + i) ∧ Aside0 (l2.length ≤ 1000000000 + i) ∧ Aside0 (Mw w base (.slice A1 ds.length c1) (.slice A2 es.length c2) #[.int .i64 id, .int .u64 lo, .int .u64 hi, .slice A3 m3 q3, .int .i64 gen, .slice A4 m4 q4] (.slice A3 m3 q3) (.slice A4 m4 q4) l l2 wr)) (fun v4 _ => 20 - (intOf v4).toNat)
          case atStart => exact ⟨0, _, _, _, _, _, _, l, l2, by omega, rfl, ⟨by have := HL1.out; omega⟩, ⟨by have := HL2.out; omega⟩, HN⟩
          case round =>
            clear HN HL1 HL2
            obtain ⟨i, A3, m3, q3, A4, m4, q4, l, l2, hi, rfl, HL1, HL2, HN⟩ := hrel
            by_cases hlt2 : i < 20
            · have c3 : _ = some (Value.slice A3 m3 q3) := (blk_cell HN.out.box 3).trans rfl
              go_wp2_with (first | ((with_reducible refine gate_builtin (b := .append) (xs := #[.tmp 38, .tmp 40]) rfl ?_); go_loud (at_builtin; refine Kd.R_append k58 (w0 := w) base rfl (.tmp 38) (.tmp 40) 43 58 (.agg #[.int .u64 0, .string ByteArray.empty, .string ByteArray.empty]) 40 rfl Tryd.underlying43 info58 rfl (by decide) (by omega) (.slice A3 m3 q3) l (⟨0, yS, oS⟩ : SD) [.int .u64 0, .string yS, .string oS] (fun _ => True) (fun _ => False) rfl (by first | (go_simp; done) | (go_simp; rfl)) ?aP (fun _ hk => hk.elim) (fun _ _ => trivial) ?aO ?aB ?aS ?aL ?_; (case aP => exact k58_mkM _ _ _ (⟨0, yS, oS⟩ : SD)); (case aO => exact HN.out.own1); (case aB => exact HN.out.bel); (case aS => exact Nat.le_trans HN.out.hb HN.out.bel.size); (case aL => exact (by have := HL1.out; omega)); clear c3; intro u' w99 ho hbb hg hat; obtain ⟨A5, q5, m5, hm5, rfl⟩ := sl_form ho; clear hm5; have HQ := Aside0.mk (HN.out.grow1 hg ho hat); have c3 : _ = some (Value.slice A3 m3 q3) := (blk_cell HQ.out.box 3).trans rfl; have f3 := blk_frozen HQ.out.box 3; have c5 : _ = some (Value.slice A4 m4 q4) := (blk_cell HQ.out.box 5).trans rfl; have HM := Aside0.mk (HQ.out.put 3 (.slice A5 m5 q5)); clear ho hbb hg hat)) | ((with_reducible refine gate_builtin (b := .append) (xs := #[.tmp 44, .tmp 46]) rfl ?_); go_loud (at_builtin; refine Kd.R_append k60 (w0 := w) base rfl (.tmp 44) (.tmp 46) 44 60 (.agg #[.int .u64 0, .int .u64 0, .string ByteArray.empty]) 32 rfl Tryd.underlying44 info60 rfl (by decide) (by omega) (.slice A4 m4 q4) l2 (⟨9, 0, yS⟩ : SE) [.int .u64 9, .int .u64 0, .string yS] (fun _ => True) (fun _ => False) rfl (by first | (go_simp; done) | (go_simp; rfl)) ?bP (fun _ hk => hk.elim) (fun _ _ => trivial) ?bO ?bB ?bS ?bL ?_; (case bP => exact k60_mkM _ _ _ (⟨9, 0, yS⟩ : SE)); (case bO => exact HM.out.own2); (case bB => exact HM.out.bel); (case bS => exact Nat.le_trans HM.out.hb HM.out.bel.size); (case bL => exact (by have := HL2.out; omega)); clear c5 f3 c3; intro u7 w98 ho hbb hg hat; obtain ⟨A7, q7, m7, hm7, rfl⟩ := sl_form ho; clear hm7; have HQ7 := Aside0.mk (HM.out.grow2 hg ho hat); have c5 : _ = some (Value.slice A4 m4 q4) := (blk_cell HQ7.out.box 5).trans rfl; have f5 := blk_frozen HQ7.out.box 5; have HM7 := Aside0.mk (HQ7.out.put 5 (.slice A7 m7 q7)); clear ho hbb hg hat)))
              go_roundw
              case rel => exact ⟨i + 1, _, _, _, _, _, _, _, _, by omega, by go_num, ⟨by rw [List.length_append, List.length_singleton]; have := HL1.out; omega⟩, ⟨by rw [List.length_append, List.length_singleton]; have := HL2.out; omega⟩, HM7⟩
              case measure => simp [intOf]; omega
            · go_wp2
              go_end0
              exact ⟨rfl, HN.out.two, HN.out.bel⟩
end Go.Proofs.YtejjidggnnhgjaaDoor.HImMk
/- A loose reading that is laid down again as it was is the strict one. Plain laws. -/
set_option linter.unusedVariables false
set_option linter.unusedSimpArgs false
namespace Go.Proofs.YtejjidggnnhgjaaDoor.HImS2
open Go.RowKit Go.Proofs.YtejjidggnnhgjaaDoor.PImg Go.Proofs.YtejjidggnnhgjaaDoor.HBlob Go.Proofs.YtejjidggnnhgjaaDoor.HCk Go.Proofs.YtejjidggnnhgjaaDoor.HImgR Go.Proofs.YtejjidggnnhgjaaDoor.HImgO Go.Proofs.YtejjidggnnhgjaaDoor.HImP Go.Proofs.YtejjidggnnhgjaaDoor.HImD Go.Proofs.YtejjidggnnhgjaaDoor.HImE Go.Proofs.YtejjidggnnhgjaaDoor.HImF Go.Proofs.YtejjidggnnhgjaaDoor.HImS Go.Proofs.YtejjidggnnhgjaaDoorW.PrintWords Go.Proofs.YtejjidggnnhgjaaDoorW.PrintLast Go.Proofs.YtejjidggnnhgjaaDoor.HCore
theorem ldD_lo (s : ByteArray) : 0 ≤ (ldD s).1.2.1 := by unfold ldD; exact (cn_rng _ _).1
theorem looseD_yes {b : ByteArray} (ho : opn b ltD = 0) {r : (Int × Int × Int × List SD) × Bool} (hr : ldD (ins b) = r) (hb : r.2 = false) (hg : gdD r.1.1 r.1.2.1 r.1.2.2.1 r.1.2.2.2 = true) (hf : fileOf ltD (byD r.1.1 r.1.2.1 r.1.2.2.1 r.1.2.2.2) = b) : HImDd.val b = r.1 ∧ HImDd.code b = 0 := by
  have hlo : 0 ≤ r.1.2.1 := by rw [← hr]; exact ldD_lo _
  have hl := (file_iff rfl ho).1 hf
  obtain ⟨q, h1, h2⟩ := dcD_fwd (t := []) hlo hg (by rw [List.append_nil]; exact hl.symm)
  exact HImDd.some_val ho h1 (h2.end_iff.2 rfl)
theorem looseD_no {b : ByteArray} (ho : opn b ltD = 0) {r : (Int × Int × Int × List SD) × Bool} (hr : ldD (ins b) = r) (hn : ¬ (r.2 = false ∧ gdD r.1.1 r.1.2.1 r.1.2.2.1 r.1.2.2.2 = true ∧ fileOf ltD (byD r.1.1 r.1.2.1 r.1.2.2.1 r.1.2.2.2) = b)) : HImDd.val b = (0, 0, 0, []) ∧ HImDd.code b = 125 := by
  cases hd : dcD (ins b) with
  | none => exact HImDd.none_val ho hd
  | some x =>
    by_cases hx : x.2 = ((ins b).size : Int)
    · exfalso
      obtain ⟨⟨id, lo, hi, ds⟩, q⟩ := x
      obtain ⟨g, _, h0, t, e, hs⟩ := dcD_drop hd
      have ht : t = [] := hs.end_iff.1 hx
      subst ht
      rw [List.append_nil] at e
      have h5 := ldD_fwd h0 g e
      rw [hr] at h5
      subst h5
      exact hn ⟨rfl, g, (file_iff rfl ho).2 e.symm⟩
    · exact HImDd.short_val ho hd hx
end Go.Proofs.YtejjidggnnhgjaaDoor.HImS2
/- What may be, by the program and by the document: both come to the plain functions. -/
set_option linter.unusedVariables false
set_option linter.unusedSimpArgs false
namespace Go.Proofs.YtejjidggnnhgjaaDoor.HImK
open Go.RowKit Go.Proofs.YtejjidggnnhgjaaDoor.PImg Go.Proofs.YtejjidggnnhgjaaDoor.HImP Go.Proofs.YtejjidggnnhgjaaDoor.HImD Go.Proofs.YtejjidggnnhgjaaDoorW.PrintWords Go.Proofs.YtejjidggnnhgjaaDoorW.PrintLast Go.Proofs.YtejjidggnnhgjaaDoor.HCore
def pv {X : Type} (b : X → X → Bool) (o : Option X) (x : X) : Bool := match o with | none => true | some y => b y x
theorem gd_cons {X : Type} (c : X → Bool) (b : X → X → Bool) (o : Option X) (x : X) (xs : List X) : HImD.gd c b o (x :: xs) = ((c x && pv b o x) && HImD.gd c b (some x) xs) := by
  cases o <;> simp [HImD.gd, pv]
theorem key_f (s : ByteArray) : image_goodKey.f s = some (decide (1 ≤ s.size ∧ s.size ≤ 160)) := by
  unfold image_goodKey.f
  by_cases h : s.toList = []
  · have hz : s.size = 0 := by rw [← size_list, ← toList_data, h]; rfl
    rw [if_pos h, hz]; rfl
  · have hz : s.size ≠ 0 := fun e => h (by rw [toList_data]; apply List.length_eq_zero_iff.1; rw [size_list, e])
    rw [if_neg h, decide_eq_decide.2 (show ((s.size : Int) ≤ 160) ↔ (1 ≤ s.size ∧ s.size ≤ 160) by omega)]
theorem rkey_f (s : ByteArray) : strataref12_key.f s = some (decide (1 ≤ s.size ∧ s.size ≤ 160)) := by
  unfold strataref12_key.f
  by_cases h : (s.size : Int) ≥ 1
  · rw [if_pos h, decide_eq_decide.2 (show ((s.size : Int) ≤ 160) ↔ (1 ≤ s.size ∧ s.size ≤ 160) by omega)]
  · rw [if_neg h]
    congr 1
    symm
    apply decide_eq_false
    omega
theorem bfr_f (a : Int) (k : ByteArray) (b : Int) (l : ByteArray) : image_place_before.f a k b l = some (bfr a k b l) := by
  unfold image_place_before.f bfr
  rw [toList_data, toList_data]
  by_cases h : a < b
  · rw [if_pos h, decide_eq_true h, Bool.true_or]
  · rw [if_neg h, decide_eq_false h, Bool.false_or]
    by_cases e : a = b
    · rw [if_pos e, decide_eq_true e, Bool.true_and]
    · rw [if_neg e, decide_eq_false e, Bool.false_and]
theorem rahead_f (a : Int) (k : ByteArray) (b : Int) (l : ByteArray) : strataref12_ahead.f a k b l = some (bfr a k b l) := by
  unfold strataref12_ahead.f bfr
  rw [toList_data, toList_data]
  by_cases h : a < b
  · rw [if_pos h, decide_eq_true h, Bool.true_or]
  · rw [if_neg h, decide_eq_false h, Bool.false_or]
    by_cases e : a = b
    · rw [if_pos e, decide_eq_true e, Bool.true_and]
    · rw [if_neg e, decide_eq_false e, Bool.false_and]
theorem wstep (n : Nat) (h : n < 1152921504606846976) : wrap64 ((n : Int) + 1) = ((n + 1 : Nat) : Int) := by rw [w64 (by omega) (by omega)]; omega
theorem wback (n : Nat) (h : n < 1152921504606846976) : wrap64 (((n + 1 : Nat) : Int) - 1) = (n : Int) := by rw [w64 (by omega) (by omega)]; omega
theorem getD_mid {X : Type} (pre : List X) (x z : X) (rest : List X) : (pre ++ x :: rest).getD ((pre.length : Int)).toNat z = x := by
  rw [Int.toNat_natCast, List.getD_eq_getElem?_getD, List.getElem?_append_right (Nat.le_refl _), Nat.sub_self]
  rfl
theorem getD_prev {X : Type} (pre : List X) (y z : X) (rest : List X) (h : pre.getLast? = some y) (n : Nat) (hn : pre.length = n + 1) : (pre ++ rest).getD ((n : Int)).toNat z = y := by
  rw [Int.toNat_natCast, List.getD_eq_getElem?_getD, List.getElem?_append_left (by omega)]
  rw [List.getLast?_eq_getElem?, hn] at h
  simp only [Nat.add_sub_cancel] at h
  rw [h]
  rfl
/-! ### data -/
theorem gD_loop (id lo hi gen : Int) (es : List SE) : ∀ (rest pre : List SD) (k : Nat) (lb : Int) (lk : ByteArray), pre.length + rest.length < 1152921504606846976 → rest.length < k → (∀ y, pre.getLast? = some y → lb = y.f0 ∧ lk = y.f1) →
    image_goodData.l0 k (pre ++ rest) ((pre ++ rest).length : Int) (pre.length : Int) id lo hi (pre ++ rest) gen es lb lk = some (HImD.gd (cD lo hi) bD pre.getLast? rest) := by
  intro rest
  induction rest with
  | nil =>
    intro pre k lb lk hn hk _
    obtain ⟨k, rfl⟩ : ∃ m, k = m + 1 := ⟨k - 1, by simp at hk; omega⟩
    unfold image_goodData.l0
    rw [if_neg (by simp)]
    cases pre.getLast? <;> rfl
  | cons x rest ih =>
    intro pre k lb lk hn hk hl
    obtain ⟨k, rfl⟩ : ∃ m, k = m + 1 := ⟨k - 1, by simp at hk; omega⟩
    have hrd : rd_T58 (pre ++ x :: rest) (pre.length : Int) = x := getD_mid pre x _ rest
    have hi2 := ih (pre ++ [x]) k x.f0 x.f1 (by simp at hn ⊢; omega) (by simp at hk; omega) (fun y hy => by rw [List.getLast?_concat] at hy; cases hy; exact ⟨rfl, rfl⟩)
    have hlen : (pre ++ [x]).length = pre.length + 1 := by simp
    rw [List.append_assoc, List.singleton_append, List.getLast?_concat, hlen] at hi2
    unfold image_goodData.l0
    have hlt : (pre.length : Int) < ((pre ++ x :: rest).length : Int) := by rw [List.length_append, List.length_cons]; omega
    rw [if_pos hlt, if_pos (by omega), if_pos hlt, hrd, gd_cons, key_f, Option.bind_some, wstep _ (by omega)]
    rw [show cD lo hi x = decide (lo < x.f0 ∧ x.f0 ≤ hi ∧ 1 ≤ x.f1.size ∧ x.f1.size ≤ 160 ∧ x.f2.size ≤ 512) from rfl]
    by_cases h1 : x.f0 ≤ lo
    · rw [if_pos h1, decide_eq_false (fun h => by omega)]; rfl
    · rw [if_neg h1]
      by_cases h2 : x.f0 > hi
      · rw [if_pos h2, decide_eq_false (fun h => by omega)]; rfl
      · rw [if_neg h2]
        by_cases h3 : 1 ≤ x.f1.size ∧ x.f1.size ≤ 160
        · rw [decide_eq_true h3, if_pos rfl]
          by_cases h4 : (x.f2.size : Int) > 512
          · rw [if_pos h4, decide_eq_false (fun h => by omega)]; rfl
          · rw [if_neg h4, decide_eq_true (show lo < x.f0 ∧ x.f0 ≤ hi ∧ 1 ≤ x.f1.size ∧ x.f1.size ≤ 160 ∧ x.f2.size ≤ 512 from ⟨by omega, by omega, h3.1, h3.2, by omega⟩), Bool.true_and]
            cases hp : pre.getLast? with
            | none =>
              have : pre = [] := List.getLast?_eq_none_iff.1 hp
              rw [if_neg (by rw [this]; simp), hi2]
              rfl
            | some y =>
              have hne : pre ≠ [] := fun e => by rw [e] at hp; cases hp
              have hpos := List.length_pos_iff.2 hne
              obtain ⟨rfl, rfl⟩ := hl y hp
              rw [if_pos (by omega), bfr_f, Option.bind_some]
              show _ = some (bfr y.f0 y.f1 x.f0 x.f1 && _)
              cases bfr y.f0 y.f1 x.f0 x.f1
              · rw [if_neg (by decide)]; rfl
              · rw [if_pos rfl, hi2]; rfl
        · rw [decide_eq_false h3, if_neg (by decide), decide_eq_false (fun h => h3 ⟨h.2.2.1, h.2.2.2.1⟩)]; rfl
theorem goodD_f (id lo hi gen : Int) (ds : List SD) (es : List SE) (hn : ds.length < 1152921504606846976) (k : Nat) (hk : ds.length + 2 ≤ k) : image_goodData.f k id lo hi ds gen es = some (gdD id lo hi ds) := by
  obtain ⟨k, rfl⟩ : ∃ m, k = m + 1 := ⟨k - 1, by omega⟩
  have hl := gD_loop id lo hi gen es ds [] k lo (⟨#[255]⟩ : ByteArray) (by simp; omega) (by omega) (fun y hy => by cases hy)
  simp only [List.nil_append, List.length_nil, List.getLast?_nil] at hl
  have hj : ∀ c : Bool, image_goodData.j0 (k + 1) c id lo hi ds gen es = if c = true then some false else image_goodData.l0 k ds (ds.length : Int) 0 id lo hi ds gen es lo (⟨#[255]⟩ : ByteArray) := fun c => by simp only [image_goodData.j0]
  unfold image_goodData.f gdD
  rw [show ((0 : Nat) : Int) = 0 from rfl] at hl
  by_cases h1 : id < 1
  · rw [if_pos h1, hj, if_pos rfl, decide_eq_false (fun h => by omega)]; rfl
  · rw [if_neg h1]
    by_cases h2 : id > 99999999
    · rw [if_pos h2, hj, if_pos rfl, decide_eq_false (fun h => by omega)]; rfl
    · rw [if_neg h2]
      by_cases h3 : lo ≥ hi
      · rw [if_pos h3, hj, if_pos rfl, decide_eq_false (fun h => by omega)]; rfl
      · rw [if_neg h3]
        by_cases h4 : hi > 4611686018427387903
        · rw [if_pos h4, hj, if_pos rfl, decide_eq_false (fun h => by omega)]; rfl
        · rw [if_neg h4]
          by_cases h5 : (ds.length : Int) > 65536
          · rw [hj, decide_eq_true h5, if_pos rfl, decide_eq_false (fun h => by omega)]; rfl
          · rw [hj, decide_eq_false h5, if_neg (by decide), decide_eq_true (show 1 ≤ id ∧ id ≤ 99999999 ∧ lo < hi ∧ hi ≤ 4611686018427387903 ∧ ds.length ≤ 65536 from ⟨by omega, by omega, by omega, by omega, by omega⟩), Bool.true_and]
            exact hl
theorem rD_loop (id lo hi gen : Int) (es : List SE) : ∀ (rest pre : List SD) (k : Nat), pre.length + rest.length < 1152921504606846976 → 2 * rest.length < k →
    strataref12_dataMay.l0 k (pre.length : Int) id lo hi (pre ++ rest) gen es = some (HImD.gd (cD lo hi) bD pre.getLast? rest) := by
  intro rest
  induction rest with
  | nil =>
    intro pre k hn hk
    obtain ⟨k, rfl⟩ : ∃ m, k = m + 1 := ⟨k - 1, by simp at hk; omega⟩
    unfold strataref12_dataMay.l0
    rw [if_neg (by simp)]
    cases pre.getLast? <;> rfl
  | cons x rest ih =>
    intro pre k hn hk
    obtain ⟨k, rfl⟩ : ∃ m, k = m + 2 := ⟨k - 2, by simp at hk; omega⟩
    have hrd : rd_T58 (pre ++ x :: rest) (pre.length : Int) = x := getD_mid pre x _ rest
    have hi2 := ih (pre ++ [x]) k (by simp at hn ⊢; omega) (by simp at hk; omega)
    have hlen : (pre ++ [x]).length = pre.length + 1 := by simp
    rw [List.append_assoc, List.singleton_append, List.getLast?_concat, hlen] at hi2
    unfold strataref12_dataMay.l0
    have hlt : (pre.length : Int) < ((pre ++ x :: rest).length : Int) := by rw [List.length_append, List.length_cons]; omega
    rw [if_pos hlt, if_pos (by omega), hrd, gd_cons, rkey_f, Option.bind_some]
    have hend : ∀ c : Bool, strataref12_dataMay.j2 (k + 1) (pre.length : Int) c id lo hi (pre ++ x :: rest) gen es x.f0 x.f1 x.f2 =
        some ((!c && pv bD pre.getLast? x) && HImD.gd (cD lo hi) bD (some x) rest) := by
      intro c
      rw [strataref12_dataMay.j2]
      cases c
      · rw [if_neg (by decide), wstep _ (by omega), hi2]
        cases hp : pre.getLast? with
        | none =>
          have : pre = [] := List.getLast?_eq_none_iff.1 hp
          rw [if_neg (by rw [this]; simp)]
          rfl
        | some y =>
          have hne : pre ≠ [] := fun e => by rw [e] at hp; cases hp
          obtain ⟨m, hm⟩ : ∃ m, pre.length = m + 1 := ⟨pre.length - 1, by have := List.length_pos_iff.2 hne; omega⟩
          have hpv : rd_T58 (pre ++ x :: rest) (m : Int) = y := getD_prev pre y _ _ hp m hm
          rw [if_pos (by omega), hm, wback m (by omega), if_pos (by omega), if_pos (by rw [List.length_append]; simp; omega), hpv, rahead_f, Option.bind_some]
          show _ = some (bfr y.f0 y.f1 x.f0 x.f1 && _)
          cases bfr y.f0 y.f1 x.f0 x.f1
          · rw [if_neg (by decide)]; rfl
          · rw [if_pos rfl]; rfl
      · rw [if_pos rfl]; rfl
    rw [show cD lo hi x = decide (lo < x.f0 ∧ x.f0 ≤ hi ∧ 1 ≤ x.f1.size ∧ x.f1.size ≤ 160 ∧ x.f2.size ≤ 512) from rfl]
    by_cases h1 : x.f0 ≤ lo
    · rw [if_pos h1, hend, decide_eq_false (fun h => by omega)]; rfl
    · rw [if_neg h1]
      by_cases h2 : x.f0 > hi
      · rw [if_pos h2, hend, decide_eq_false (fun h => by omega)]; rfl
      · rw [if_neg h2]
        by_cases h3 : 1 ≤ x.f1.size ∧ x.f1.size ≤ 160
        · rw [decide_eq_true h3, if_pos rfl, hend]
          by_cases h4 : (x.f2.size : Int) > 512
          · rw [decide_eq_true h4, decide_eq_false (fun h => by omega)]; rfl
          · rw [decide_eq_false h4, decide_eq_true (show lo < x.f0 ∧ x.f0 ≤ hi ∧ 1 ≤ x.f1.size ∧ x.f1.size ≤ 160 ∧ x.f2.size ≤ 512 from ⟨by omega, by omega, h3.1, h3.2, by omega⟩)]; rfl
        · rw [decide_eq_false h3, if_neg (by decide), hend, decide_eq_false (fun h => h3 ⟨h.2.2.1, h.2.2.2.1⟩)]; rfl
theorem mayD_f (id lo hi gen : Int) (ds : List SD) (es : List SE) (hn : ds.length < 1152921504606846976) (k : Nat) (hk : 2 * ds.length + 2 ≤ k) : strataref12_dataMay.f k id lo hi ds gen es = some (gdD id lo hi ds) := by
  obtain ⟨k, rfl⟩ : ∃ m, k = m + 1 := ⟨k - 1, by omega⟩
  have hl := rD_loop id lo hi gen es ds [] k (by simp; omega) (by omega)
  simp only [List.nil_append, List.length_nil, List.getLast?_nil] at hl
  rw [show ((0 : Nat) : Int) = 0 from rfl] at hl
  have hj : ∀ c : Bool, strataref12_dataMay.j0 (k + 1) c id lo hi ds gen es = if c = true then some false else strataref12_dataMay.l0 k 0 id lo hi ds gen es := fun c => by simp only [strataref12_dataMay.j0]
  unfold strataref12_dataMay.f gdD
  by_cases h1 : id < 1
  · rw [if_pos h1, hj, if_pos rfl, decide_eq_false (fun h => by omega)]; rfl
  · rw [if_neg h1]
    by_cases h2 : id > 99999999
    · rw [if_pos h2, hj, if_pos rfl, decide_eq_false (fun h => by omega)]; rfl
    · rw [if_neg h2]
      by_cases h3 : lo ≥ hi
      · rw [if_pos h3, hj, if_pos rfl, decide_eq_false (fun h => by omega)]; rfl
      · rw [if_neg h3]
        by_cases h4 : hi > 4611686018427387903
        · rw [if_pos h4, hj, if_pos rfl, decide_eq_false (fun h => by omega)]; rfl
        · rw [if_neg h4]
          by_cases h5 : (ds.length : Int) > 65536
          · rw [hj, decide_eq_true h5, if_pos rfl, decide_eq_false (fun h => by omega)]; rfl
          · rw [hj, decide_eq_false h5, if_neg (by decide), decide_eq_true (show 1 ≤ id ∧ id ≤ 99999999 ∧ lo < hi ∧ hi ≤ 4611686018427387903 ∧ ds.length ≤ 65536 from ⟨by omega, by omega, by omega, by omega, by omega⟩), Bool.true_and]
            exact hl
end Go.Proofs.YtejjidggnnhgjaaDoor.HImK
/- The document's writers of layer 12, as it prints them, come to the bytes of the plain functions. -/
set_option linter.unusedVariables false
set_option linter.unusedSimpArgs false
namespace Go.Proofs.YtejjidggnnhgjaaDoor.HImKe
open Go.RowKit Go.Proofs.YtejjidggnnhgjaaDoor.PImg Go.Proofs.YtejjidggnnhgjaaDoor.HBase Go.Proofs.YtejjidggnnhgjaaDoor.HBlob Go.Proofs.YtejjidggnnhgjaaDoor.HCk Go.Proofs.YtejjidggnnhgjaaDoor.HImP Go.Proofs.YtejjidggnnhgjaaDoor.HImD Go.Proofs.YtejjidggnnhgjaaDoor.HImE Go.Proofs.YtejjidggnnhgjaaDoor.HImK Go.Proofs.YtejjidggnnhgjaaDoorW.PrintWords Go.Proofs.YtejjidggnnhgjaaDoorW.PrintLast Go.Proofs.YtejjidggnnhgjaaDoor.HCore
/-- Bytes as numbers. -/
def nb (l : List UInt8) : List Int := l.map fun c => (c.toNat : Int)
theorem nb_len (l : List UInt8) : (nb l).length = l.length := List.length_map ..
theorem nb_app (l : List UInt8) (t : ByteArray) : nb l ++ bytesOf t = nb (l ++ t.data.toList) := by unfold nb bytesOf; rw [List.map_append]
theorem app_step {β : Type} (l : List UInt8) (t : ByteArray) (F : List Int → Option β) (h : l.length + t.size < 140737488355328) : (if (nb l).length + t.size < 140737488355328 then ((some (nb l ++ bytesOf t)).bind F) else none) = F (nb (l ++ t.data.toList)) := by
  rw [nb_len, if_pos h, Option.bind_some, nb_app]
theorem str_nb (l : List UInt8) : strOfNums (nb l) = ⟨l.toArray⟩ := by
  apply ba_ext
  rw [strOfNums_list]
  unfold nb
  rw [List.map_map]
  conv => rhs; rw [show (⟨l.toArray⟩ : ByteArray).data.toList = l by simp]
  conv => rhs; rw [← List.map_id l]
  apply List.map_congr_left
  intro c _
  show UInt8.ofNat ((c.toNat : Int)).toNat = c
  rw [Int.toNat_natCast]
  simp
theorem uv_f {v : Int} (h : 0 ≤ v ∧ v < 18446744073709551616) : strataref01_Uvarint.f v = some (uvb v.toNat) := by unfold strataref01_Uvarint.f; rw [if_pos ⟨h.1, by omega⟩]
theorem uvw_f {v : Int} (h : 0 ≤ v ∧ v < 18446744073709551616) : strataref01_Uvarint.f (IntKind.u64.wrap v) = some (uvb v.toNat) := by rw [wu64 h.1 (by omega)]; exact uv_f h
theorem fx_f {v : Int} (h : 0 ≤ v ∧ v < 4294967296) : strataref01_Fixed32.f v = some (fxb 4 v) := by unfold strataref01_Fixed32.f; rw [if_pos ⟨h.1, by omega⟩]
theorem bl_f {s : ByteArray} (h : s.size ≤ 1048576) : strataref12_blob.f s = some (uvb s.size ++ s) := by
  unfold strataref12_blob.f strataref01_Blob.f blobOf
  rw [if_neg (by omega), Option.bind_some]
theorem bl_list (s : ByteArray) : (uvb s.size ++ s).data.toList = tb s := by rw [append_list]; rfl
theorem bl_size (s : ByteArray) : (uvb s.size ++ s).size ≤ 10 + s.size := by rw [app_size]; have := uvb_size s.size; omega
theorem seal_f (lt : ByteArray) (l : List UInt8) (hlt : lt.size = 8) (hl : l.length ≤ 100000000) (k : Nat) (hk : 2000000000 ≤ k) : strataref12_sealed.f k lt (nb l) = some (fileOf lt l) := by
  have hz : (⟨l.toArray⟩ : ByteArray).size = l.length := by rw [← size_list]
  have e : lt ++ (⟨l.toArray⟩ : ByteArray) = ⟨(lt.data.toList ++ l).toArray⟩ := by apply ba_ext; rw [append_list]
  have hz2 : (lt ++ (⟨l.toArray⟩ : ByteArray)).size = 8 + l.length := by rw [app_size, hlt, hz]
  unfold strataref12_sealed.f
  have hr := ck_rng (lt ++ ⟨l.toArray⟩)
  rw [str_nb, if_pos (by rw [hlt, hz]; omega), sum_is _ (by rw [hz2]; omega) k (by rw [hz2]; omega), Option.bind_some, fx_f ⟨hr.1, by omega⟩, Option.bind_some, if_pos (by rw [hz2, fxb_len]; omega)]
  unfold fileOf
  rw [e]
theorem eD_loop (id lo hi gen : Int) (es : List SE) (hh : hi ≤ 4611686018427387903) : ∀ (rest pre : List SD) (acc : List UInt8) (st : Int) (k : Nat), 0 ≤ st → oks (okD hi) nxD st rest → pre.length + rest.length ≤ 65536 → acc.length + 710 * rest.length ≤ 99999000 → 2000000000 + rest.length < k →
    strataref12_EncodeData.l0 k (nb acc) st (pre.length : Int) id lo hi (pre ++ rest) gen es = some (fileOf ltD (acc ++ ens wrD nxD st rest), 0) := by
  intro rest
  induction rest with
  | nil =>
    intro pre acc st k h0 ho hn hl hk
    obtain ⟨k, rfl⟩ : ∃ m, k = m + 1 := ⟨k - 1, by omega⟩
    unfold strataref12_EncodeData.l0
    rw [if_neg (by simp), show (⟨#[83, 84, 82, 65, 68, 65, 84, 49]⟩ : ByteArray) = ltD from rfl, seal_f ltD acc rfl (by simp at hl; omega) k (by simp at hk; omega), Option.bind_some]
    simp [ens]
  | cons x rest ih =>
    intro pre acc st k h0 ho hn hl hk
    obtain ⟨k, rfl⟩ : ∃ m, k = m + 1 := ⟨k - 1, by omega⟩
    simp only [List.length_cons] at hn hl hk
    have hrd : rd_T58 (pre ++ x :: rest) (pre.length : Int) = x := getD_mid pre x _ rest
    have hlt : (pre.length : Int) < ((pre ++ x :: rest).length : Int) := by rw [List.length_append, List.length_cons]; omega
    have hlen : (pre ++ [x]).length = pre.length + 1 := by simp
    obtain ⟨⟨o1, o2, o3, o4, o5⟩, ho2⟩ := ho
    have w0 := wrD_len (hi := hi) (st := st) (x := x) ⟨o1, o2, o3, o4, o5⟩
    unfold wrD at w0
    simp only [List.length_append] at w0
    have z1 := uvb_size (x.f0 - st).toNat
    have z2 := bl_size x.f1
    have z3 := bl_size x.f2
    have l1 : (ub (x.f0 - st)).length = (uvb (x.f0 - st).toNat).size := by unfold ub; rw [size_list]
    have l2 : (tb x.f1).length = (uvb x.f1.size ++ x.f1).size := by rw [← bl_list, size_list]
    have l3 : (tb x.f2).length = (uvb x.f2.size ++ x.f2).size := by rw [← bl_list, size_list]
    have hi2 := ih (pre ++ [x]) (((acc ++ ub (x.f0 - st)) ++ tb x.f1) ++ tb x.f2) x.f0 k (by omega) ho2 (by rw [hlen]; omega) (by simp only [List.length_append]; omega) (by omega)
    have hap : (pre ++ [x]) ++ rest = pre ++ x :: rest := by simp
    rw [hap, hlen] at hi2
    unfold strataref12_EncodeData.l0
    rw [if_pos hlt, if_pos (by omega), hrd, uvw_f ⟨by omega, by omega⟩, Option.bind_some, app_step _ _ _ (by omega), show (uvb (x.f0 - st).toNat).data.toList = ub (x.f0 - st) from rfl,
      bl_f (by omega), Option.bind_some, app_step _ _ _ (by rw [List.length_append]; omega), bl_list, bl_f (by omega), Option.bind_some, nb_len, if_pos (by simp only [List.length_append]; omega), nb_app, bl_list, wstep _ (by omega), hi2]
    simp [ens, wrD, nxD]
theorem encD_f (id lo hi gen : Int) (ds : List SD) (es : List SE) (h0 : 0 ≤ lo) (hn : ds.length < 4611686018427) (k : Nat) (hk : 13000000000000 ≤ k) :
    strataref12_EncodeData.f k id lo hi ds gen es = some (if gdD id lo hi ds = true then (fileOf ltD (byD id lo hi ds), 0) else ((⟨#[]⟩ : ByteArray), 2)) := by
  unfold strataref12_EncodeData.f
  rw [mayD_f id lo hi gen ds es (by omega) k (by omega), Option.bind_some]
  cases hg : gdD id lo hi ds
  · rw [if_neg (by decide), if_neg (by decide)]
  · obtain ⟨⟨g1, g2, g3, g4, g5⟩, g6⟩ := gdD_parts hg
    have z1 := uvb_size id.toNat
    have z2 := uvb_size lo.toNat
    have z3 := uvb_size (hi - lo).toNat
    have z4 := uvb_size ((ds.length : Int)).toNat
    have l1 : (ub id).length = (uvb id.toNat).size := by unfold ub; rw [size_list]
    have l2 : (ub lo).length = (uvb lo.toNat).size := by unfold ub; rw [size_list]
    have l3 : (ub (hi - lo)).length = (uvb (hi - lo).toNat).size := by unfold ub; rw [size_list]
    have l4 : (ub ds.length).length = (uvb ((ds.length : Int)).toNat).size := by unfold ub; rw [size_list]
    have hl := eD_loop id lo hi gen es g4 ds [] ((((([] : List UInt8) ++ ub id) ++ ub lo) ++ ub (hi - lo)) ++ ub ds.length) lo k h0 g6 (by simp; omega) (by simp only [List.length_append, List.length_nil]; omega) (by omega)
    simp only [List.nil_append, List.length_nil] at hl
    rw [show ((0 : Nat) : Int) = 0 from rfl] at hl
    rw [if_pos rfl, if_pos rfl, show ([] : List Int) = nb [] from rfl, uvw_f ⟨by omega, by omega⟩, Option.bind_some, app_step _ _ _ (by simp; omega), show (uvb id.toNat).data.toList = ub id from rfl, List.nil_append,
      uv_f ⟨by omega, by omega⟩, Option.bind_some, app_step _ _ _ (by omega), show (uvb lo.toNat).data.toList = ub lo from rfl,
      uvw_f ⟨by omega, by omega⟩, Option.bind_some, app_step _ _ _ (by rw [List.length_append]; omega), show (uvb (hi - lo).toNat).data.toList = ub (hi - lo) from rfl,
      uvw_f ⟨by omega, by omega⟩, Option.bind_some, nb_len, if_pos (by simp only [List.length_append]; omega), nb_app, show (uvb ((ds.length : Int)).toNat).data.toList = ub ds.length from rfl, hl]
    unfold byD
    simp only [List.append_assoc]
end Go.Proofs.YtejjidggnnhgjaaDoor.HImKe
/- DecodeData of layer 12, by the document: read loosely, and laid down again. -/
set_option linter.unusedVariables false
set_option linter.unusedSimpArgs false
namespace Go.Proofs.YtejjidggnnhgjaaDoor.HImSd
open Go.RowKit Go.Proofs.YtejjidggnnhgjaaDoor.PImg Go.Proofs.YtejjidggnnhgjaaDoor.HBase Go.Proofs.YtejjidggnnhgjaaDoor.HBlob Go.Proofs.YtejjidggnnhgjaaDoor.HCk Go.Proofs.YtejjidggnnhgjaaDoor.HImgR Go.Proofs.YtejjidggnnhgjaaDoor.HImgO Go.Proofs.YtejjidggnnhgjaaDoor.HImP Go.Proofs.YtejjidggnnhgjaaDoor.HImD Go.Proofs.YtejjidggnnhgjaaDoor.HImE Go.Proofs.YtejjidggnnhgjaaDoor.HImF Go.Proofs.YtejjidggnnhgjaaDoor.HImK Go.Proofs.YtejjidggnnhgjaaDoor.HImKe Go.Proofs.YtejjidggnnhgjaaDoor.HImS Go.Proofs.YtejjidggnnhgjaaDoor.HImS2 Go.Proofs.YtejjidggnnhgjaaDoorW.PrintWords Go.Proofs.YtejjidggnnhgjaaDoorW.PrintLast Go.Proofs.YtejjidggnnhgjaaDoorW.PrintMore Go.Proofs.YtejjidggnnhgjaaDoor.HCore
set_option maxRecDepth 100000 in
set_option maxHeartbeats 16000000 in
theorem dec_any (b : ByteArray) (w : World) (hb : b.size ≤ 1048576) :
    Calls Tryd.prog 26 #[.string b] w fun e w' => ∃ u, e = .returned (.tuple #[.agg (HImCd.cells (HImDd.val b) u), .int .i64 (HImDd.code b)]) ∧ Kd.R k58 58 w' w.heap.size (fun _ => True) u (HImDd.val b).2.2.2 ∧ Below w.heap.size w w' := by
  have hw1 := heap_alloc_new w (.cells #[.int .i64 0, .int .u64 0, .int .u64 0, .slice none 0 0, .int .i64 0, .slice none 0 0] 46)
  have H1 := Aside0.mk hw1
  clear hw1
  by_cases ho : opn b ltD = 0
  case neg =>
    have HV := Aside0.mk (HImDd.out_val ho)
    have HO0 := Aside0.mk ho
    clear ho
    go_enter Tryd.func26, Tryd.ntmps26
    go_wp2_with fail
    refine (opened_any b ltD _ (by omega) rfl).mono ?_
    rintro e w4 ⟨hb2, hop⟩
    rw [if_neg HO0.out] at hop
    subst hop
    have HR1 := Aside0.mk ((hb2.block _ (blk_lt H1.out)).trans H1.out)
    have HB := Aside0.mk (below_then (below_alloc (Below.refl w.heap.size w) (.cells #[.int .i64 0, .int .u64 0, .int .u64 0, .slice none 0 0, .int .i64 0, .slice none 0 0] 46)) (by simp) hb2)
    have hk : (opn b ltD == 0) = false := beq_eq_false_iff_ne.2 HO0.out
    generalize opn b ltD = cd at hk HV ⊢
    clear hb2 HO0
    have d0 : _ = some (Value.int .i64 0) := (blk_cell HR1.out 0).trans rfl
    have d1 : _ = some (Value.int .u64 0) := (blk_cell HR1.out 1).trans rfl
    have d2 : _ = some (Value.int .u64 0) := (blk_cell HR1.out 2).trans rfl
    have d3 : _ = some (Value.slice none 0 0) := (blk_cell HR1.out 3).trans rfl
    have d4 : _ = some (Value.int .i64 0) := (blk_cell HR1.out 4).trans rfl
    have d5 : _ = some (Value.slice none 0 0) := (blk_cell HR1.out 5).trans rfl
    have f0 := blk_frozen HR1.out 0
    have f1 := blk_frozen HR1.out 1
    have f2 := blk_frozen HR1.out 2
    have f3 := blk_frozen HR1.out 3
    have f4 := blk_frozen HR1.out 4
    have f5 := blk_frozen HR1.out 5
    go_wp2_with fail
    refine bodyPost_ret (v := .tuple #[.agg #[.int .i64 0, .int .u64 0, .int .u64 0, .slice none 0 0, .int .i64 0, .slice none 0 0], .int .i64 cd]) (results_ct (fn := Tryd.f26) rfl _ _ w.heap.size 46 #[.int .i64 0, .int .u64 0, .int .u64 0, .slice none 0 0, .int .i64 0, .slice none 0 0] (0, 0) _ rfl (by exact (blk_set ((blk_set ((blk_set ((blk_set ((blk_set ((blk_set HR1.out 0 (.int .i64 0)).trans rfl) 1 (.int .u64 0)).trans rfl) 2 (.int .u64 0)).trans rfl) 3 (.slice none 0 0)).trans rfl) 4 (.int .i64 0)).trans rfl) 5 (.slice none 0 0)).trans rfl) Tryd.underlying46 rfl (by kernel_rfl)) rfl ?_
    refine ⟨_, by rw [HV.out.1, HV.out.2]; rfl, ?_, ((((((HB.out.setCell (p := ⟨w.heap.size, 0, none⟩) (Nat.le_refl _) _).setCell (p := ⟨w.heap.size, 1, none⟩) (Nat.le_refl _) _).setCell (p := ⟨w.heap.size, 2, none⟩) (Nat.le_refl _) _).setCell (p := ⟨w.heap.size, 3, none⟩) (Nat.le_refl _) _).setCell (p := ⟨w.heap.size, 4, none⟩) (Nat.le_refl _) _).setCell (p := ⟨w.heap.size, 5, none⟩) (Nat.le_refl _) _)⟩
    rw [HV.out.1]
    exact Kd.R_nil _ _ _ _ _
  have HO0 := Aside0.mk ho
  have hs : (ins b).size ≤ 1048576 := by unfold ins; rw [← size_list, extract_list, extract_list, List.length_take, List.length_drop, List.length_take, List.drop_zero, size_list]; omega
  obtain ⟨s, hse⟩ : ∃ s, s = ins b := ⟨_, rfl⟩
  rw [← hse] at hs
  have hs2 : s.size ≤ 4611686018427387904 := by omega
  have HSE := Aside0.mk hse
  have HS := Aside0.mk hs2
  clear hse ho hs2
  have hld : ldD s = _ := rfl
  conv at hld => rhs; unfold ldD
  simp only at hld
  have HLD := Aside0.mk hld
  clear hld
  go_enter Tryd.func26, Tryd.ntmps26
  go_wp2_with fail
  refine (opened_any b ltD _ (by omega) rfl).mono ?_
  rintro e w2 ⟨hb2, hop⟩
  rw [if_pos HO0.out, ← HSE.out] at hop
  obtain ⟨gb, rfl, hcur⟩ := hop
  have HR1 := Aside0.mk ((hb2.block _ (blk_lt H1.out)).trans H1.out)
  have HB := Aside0.mk (below_then (below_alloc (Below.refl w.heap.size w) (.cells #[.int .i64 0, .int .u64 0, .int .u64 0, .slice none 0 0, .int .i64 0, .slice none 0 0] 46)) (by simp) hb2)
  have hgb : w.heap.size < gb := by have := hcur.2; simp at this; omega
  have HC : Aside0 (Cu w w2 gb s (0, false)) := ⟨⟨hcur.1, Nat.le_of_lt hgb⟩⟩
  clear hb2 hcur
  go_wp2_with fail
  obtain ⟨id, c_id, hr_id⟩ : ∃ x y, cs s (0, false) = (x, y) := ⟨_, _, rfl⟩
  have rg_id := cs_rng s (0, false)
  rw [hr_id] at rg_id
  obtain ⟨id_0, id_1, id_a⟩ := rg_id
  simp only at id_0 id_1
  refine (small_any gb s (0, false) w _ HS.out HC.out HB.out).mono ?_
  rw [hr_id]
  rintro e w3 ⟨rfl, hI, hB, hK⟩
  have hr3 : w3.heap[w.heap.size]? = some (.cells #[.int .i64 0, .int .u64 0, .int .u64 0, .slice none 0 0, .int .i64 0, .slice none 0 0] 46 (0, 0)) := (hK.2 _ (blk_lt HR1.out) (by omega) (by simp)).trans HR1.out
  have hg3 : gb < w3.heap.size := blk_lt hI.1
  have HT : Aside0 (Lo k58 58 46 #[.int .i64 0, .int .u64 0, .int .u64 0, .slice none 0 0, .int .i64 0, .slice none 0 0] w w3.heap.size gb gb s c_id #[.int .i64 id, .int .u64 0, .int .u64 0, .slice none 0 0, .int .i64 0, .slice none 0 0] (.slice none 0 0) [] (w3.alloc (.cells #[.int .i64 id, .int .u64 0, .int .u64 0, .slice none 0 0, .int .i64 0, .slice none 0 0] 46))) := ⟨⟨below_alloc hB _, (heap_alloc_old _ _ (blk_lt hr3)).trans hr3, heap_alloc_new _ _, hI.alloc _, Kd.R_nil _ _ _ _ _, ⟨by omega, by omega, hgb⟩⟩⟩
  clear hI hB hK hr3 HR1 HB HC H1
  have c0 : _ = some (Value.int .i64 id) := (blk_cell HT.out.pair 0).trans rfl
  have c1 : _ = some (Value.int .u64 0) := (blk_cell HT.out.pair 1).trans rfl
  have c2 : _ = some (Value.int .u64 0) := (blk_cell HT.out.pair 2).trans rfl
  have c3 : _ = some (Value.slice none 0 0) := (blk_cell HT.out.pair 3).trans rfl
  have c4 : _ = some (Value.int .i64 0) := (blk_cell HT.out.pair 4).trans rfl
  have c5 : _ = some (Value.slice none 0 0) := (blk_cell HT.out.pair 5).trans rfl
  have g2 : _ = some (Value.bool _) := (blk_cell HT.out.cur.1 2).trans rfl
  go_wp2_with fail
  clear c0 c1 c2 c3 c4 c5 g2
  obtain ⟨pb, hpb⟩ : ∃ pb, pb = w3.heap.size := ⟨_, rfl⟩
  rw [← hpb] at HT ⊢
  clear hpb hg3
  obtain ⟨lo, c_lo, hr_lo⟩ : ∃ x y, cn s c_id = (x, y) := ⟨_, _, rfl⟩
  have rg_lo := cn_rng s c_id
  rw [hr_lo] at rg_lo
  obtain ⟨lo_0, lo_1, lo_a⟩ := rg_lo
  simp only at lo_0 lo_1
  refine (num_any gb s c_id w _ HS.out HT.out.cur HT.out.below).mono ?_
  rw [hr_lo]
  rintro e w13 ⟨rfl, hI, hB, hK⟩
  have HT := Aside0.mk (HT.out.reads (by decide) hI hB hK)
  have hK' := hK
  clear hI hB hK hK'
  have c0 : _ = some (Value.int .i64 id) := (blk_cell HT.out.pair 0).trans rfl
  have c1 : _ = some (Value.int .u64 0) := (blk_cell HT.out.pair 1).trans rfl
  have c2 : _ = some (Value.int .u64 0) := (blk_cell HT.out.pair 2).trans rfl
  have c3 : _ = some (Value.slice none 0 0) := (blk_cell HT.out.pair 3).trans rfl
  have c4 : _ = some (Value.int .i64 0) := (blk_cell HT.out.pair 4).trans rfl
  have c5 : _ = some (Value.slice none 0 0) := (blk_cell HT.out.pair 5).trans rfl
  have g2 : _ = some (Value.bool _) := (blk_cell HT.out.cur.1 2).trans rfl
  have ff := blk_frozen HT.out.pair 1
  have HT : Aside0 (Lo k58 58 46 #[.int .i64 0, .int .u64 0, .int .u64 0, .slice none 0 0, .int .i64 0, .slice none 0 0] w pb gb gb s c_lo #[.int .i64 id, .int .u64 lo, .int .u64 0, .slice none 0 0, .int .i64 0, .slice none 0 0] (.slice none 0 0) [] (w13.setCell ⟨pb, 1, none⟩ (.int .u64 lo))) := ⟨HT.out.put (by decide) 1 _⟩
  go_wp2_with fail
  clear c0 c1 c2 c3 c4 c5 g2
  clear ff
  obtain ⟨dh, c_dh, hr_dh⟩ : ∃ x y, cn s c_lo = (x, y) := ⟨_, _, rfl⟩
  have rg_dh := cn_rng s c_lo
  rw [hr_dh] at rg_dh
  obtain ⟨dh_0, dh_1, dh_a⟩ := rg_dh
  simp only at dh_0 dh_1
  go_upto_region 6 with (fail)
  have c0 : _ = some (Value.int .i64 id) := (blk_cell HT.out.pair 0).trans rfl
  have c1 : _ = some (Value.int .u64 lo) := (blk_cell HT.out.pair 1).trans rfl
  have c2 : _ = some (Value.int .u64 0) := (blk_cell HT.out.pair 2).trans rfl
  have c3 : _ = some (Value.slice none 0 0) := (blk_cell HT.out.pair 3).trans rfl
  have c4 : _ = some (Value.int .i64 0) := (blk_cell HT.out.pair 4).trans rfl
  have c5 : _ = some (Value.slice none 0 0) := (blk_cell HT.out.pair 5).trans rfl
  have g2 : _ = some (Value.bool _) := (blk_cell HT.out.cur.1 2).trans rfl
  have ff := blk_frozen HT.out.pair 2
  go_cut [] (fun wx => Aside0 (Lo k58 58 46 #[.int .i64 0, .int .u64 0, .int .u64 0, .slice none 0 0, .int .i64 0, .slice none 0 0] w pb gb gb s c_dh #[.int .i64 id, .int .u64 lo, .int .u64 (IntKind.u64.wrap (lo + dh)), .slice none 0 0, .int .i64 0, .slice none 0 0] (.slice none 0 0) [] wx))
  case first =>
    go_region_with (first | (go_at_call 45; (with_reducible refine (num_any gb s c_lo w _ HS.out HT.out.drew.cur HT.out.drew.below).mono ?_); rw [hr_dh]; rintro e wk ⟨rfl, hI, hB, hK⟩; have HT2 := Aside0.mk (HT.out.drew.reads (by decide) hI hB hK); have c1 : _ = some (Value.int .u64 lo) := (blk_cell HT2.out.pair 1).trans rfl; have c2 : _ = some (Value.int .u64 0) := (blk_cell HT2.out.pair 2).trans rfl; have f2 := blk_frozen HT2.out.pair 2; clear hI hB hK))
    all_goals (go_wp2_with fail; go_meet; case rel => exact ⟨HT2.out.put (by decide) 2 _⟩)
  clear c0 c1 c2 c3 c4 c5 g2
  clear ff
  have HT := hcut
  clear hcut
  obtain ⟨w30, rfl⟩ : ∃ x, x = wc := ⟨_, rfl⟩
  obtain ⟨hi, hhi⟩ : ∃ hi, hi = IntKind.u64.wrap (lo + dh) := ⟨_, rfl⟩
  rw [← hhi] at HT
  have c0 : _ = some (Value.int .i64 id) := (blk_cell HT.out.pair 0).trans rfl
  have c1 : _ = some (Value.int .u64 lo) := (blk_cell HT.out.pair 1).trans rfl
  have c2 : _ = some (Value.int .u64 hi) := (blk_cell HT.out.pair 2).trans rfl
  have c3 : _ = some (Value.slice none 0 0) := (blk_cell HT.out.pair 3).trans rfl
  have c4 : _ = some (Value.int .i64 0) := (blk_cell HT.out.pair 4).trans rfl
  have c5 : _ = some (Value.slice none 0 0) := (blk_cell HT.out.pair 5).trans rfl
  have g2 : _ = some (Value.bool _) := (blk_cell HT.out.cur.1 2).trans rfl
  go_wp2_with fail
  clear c0 c1 c2 c3 c4 c5 g2
  obtain ⟨n, c_n, hr_n⟩ : ∃ x y, cs s c_dh = (x, y) := ⟨_, _, rfl⟩
  have rg_n := cs_rng s c_dh
  rw [hr_n] at rg_n
  obtain ⟨n_0, n_1, n_a⟩ := rg_n
  simp only at n_0 n_1
  refine (small_any gb s c_dh w _ HS.out HT.out.cur HT.out.below).mono ?_
  rw [hr_n]
  rintro e w14 ⟨rfl, hI, hB, hK⟩
  have HT := Aside0.mk (HT.out.reads (by decide) hI hB hK)
  clear hI hB hK
  obtain ⟨N, rfl⟩ := Int.eq_ofNat_of_zero_le n_0
  have hld := HLD.out
  simp only [hr_id, hr_lo, hr_dh, hr_n, Int.toNat_natCast, ← hhi] at hld
  clear HLD
  obtain ⟨LR, hLR⟩ : ∃ LR, LR = lr (lrD s) nxD N lo c_n [] := ⟨_, rfl⟩
  rw [← hLR] at hld
  have HLD := Aside0.mk hld
  have HLR := Aside0.mk hLR.symm
  clear hld hLR hr_id hr_lo hr_dh hr_n hhi
  have c0 : _ = some (Value.int .i64 id) := (blk_cell HT.out.pair 0).trans rfl
  have c1 : _ = some (Value.int .u64 lo) := (blk_cell HT.out.pair 1).trans rfl
  have c2 : _ = some (Value.int .u64 hi) := (blk_cell HT.out.pair 2).trans rfl
  have c3 : _ = some (Value.slice none 0 0) := (blk_cell HT.out.pair 3).trans rfl
  have c4 : _ = some (Value.int .i64 0) := (blk_cell HT.out.pair 4).trans rfl
  have c5 : _ = some (Value.slice none 0 0) := (blk_cell HT.out.pair 5).trans rfl
  have g2 : _ = some (Value.bool _) := (blk_cell HT.out.cur.1 2).trans rfl
  go_wp2
  clear c0 c1 c2 c3 c4 c5 g2
  have hpos : c_n.2 = false → 0 ≤ c_n.1 ∧ c_n.1 ≤ s.size := by
    intro h
    obtain ⟨q_n, p_n, e_n⟩ := n_a h
    obtain ⟨q_dh, p_dh, e_dh⟩ := dh_a q_n
    obtain ⟨q_lo, p_lo, e_lo⟩ := lo_a q_dh
    obtain ⟨q_id, p_id, e_id⟩ := id_a q_lo
    simp only at *
    omega
  clear id_a lo_a dh_a n_a
  go_loopw [8, 9] (fun v8 v9 wr => ∃ (i : Nat) (c : Int × Bool) (last : Int) (u : Value) (l : List SD), v9 = .int .i64 (i : Int) ∧ v8 = .int .u64 last ∧ (0 ≤ last ∧ last ≤ 18446744073709551615) ∧ i ≤ N ∧ l.length = i ∧ (c.2 = false → 0 ≤ c.1 ∧ (l.length : Int) ≤ c.1 ∧ c.1 ≤ s.size) ∧ l.length ≤ s.size + 1 ∧ Aside0 (Lo k58 58 46 #[.int .i64 0, .int .u64 0, .int .u64 0, .slice none 0 0, .int .i64 0, .slice none 0 0] w pb gb gb s c #[.int .i64 id, .int .u64 lo, .int .u64 hi, u, .int .i64 0, .slice none 0 0] u l wr) ∧ Aside0 (lr (lrD s) nxD (N - i) last c l = LR)) (fun _ v9 _ => N - (intOf v9).toNat)
  case atStart => exact ⟨0, c_n, lo, _, [], rfl, rfl, by omega, by omega, rfl, fun h => by have := hpos h; rw [List.length_nil]; omega, by rw [List.length_nil]; omega, HT, HLR⟩
  case round =>
    clear HT HLR hpos
    obtain ⟨i, c, last, u, l, rfl, rfl, last_b, hiN, rfl, hc, hlz, HT, HLR⟩ := hrel
    cases hcb : c.2
    case true =>
      have hL : LR = (l, c) := by
        rw [← HLR.out]
        cases N - l.length with
        | zero => rfl
        | succ m => simp only [lr, hcb, if_true]
      have HL := Aside0.mk hL
      clear hL HLR
      have g2 : _ = some (Value.bool true) := (blk_cell HT.out.cur.1 2).trans (by rw [hcb]; rfl)
      by_cases hlt : l.length < N
      case pos =>
        have hld := HLD.out
        rw [HL.out, hcb] at hld
        have hldb : ldD (ins b) = ((id, lo, hi, l), true) := by rw [← HSE.out]; exact hld
        have HLb := Aside0.mk hldb
        clear hld hldb HLD HL
        obtain ⟨A, cc, rfl, hcl, hC⟩ := Kd.R_reads HT.out.own
        have HCc := Aside0.mk hC
        clear hC
        have c0 : _ = some (Value.int .i64 id) := (blk_cell HT.out.pair 0).trans rfl
        have c1 : _ = some (Value.int .u64 lo) := (blk_cell HT.out.pair 1).trans rfl
        have c2 : _ = some (Value.int .u64 hi) := (blk_cell HT.out.pair 2).trans rfl
        have c3 : _ = some (Value.slice A l.length cc) := (blk_cell HT.out.pair 3).trans rfl
        have c4 : _ = some (Value.int .i64 0) := (blk_cell HT.out.pair 4).trans rfl
        have c5 : _ = some (Value.slice none 0 0) := (blk_cell HT.out.pair 5).trans rfl
        go_wp2_with fail
        clear c0 c1 c2 c3 c4 c5
        obtain ⟨K, hK⟩ : ∃ K : Nat, 13000000000000 ≤ K := ⟨_, Nat.le_refl _⟩
        cases hgd : gdD id lo hi l
        case false =>
          have HE : Aside0 (strataref12_EncodeData.f K id lo hi l 0 ([] : List SE) = some ((⟨#[]⟩ : ByteArray), 2)) := ⟨by rw [encD_f id lo hi 0 l [] lo_0 (by omega) K hK, hgd, if_neg (by decide)]⟩
          refine (strataref12_EncodeData.calls K id lo hi A cc l 0 none 0 [] _ _ _ HCc.out hcl (Kd.C_nil _ _) (Nat.le_refl _) HE.out).mono ?_
          rintro e w40 ⟨rfl, hb⟩
          have HT := Aside0.mk (HT.out.step hb)
          clear hb HCc hK HE
          have g2 : _ = some (Value.bool true) := (blk_cell HT.out.cur.1 2).trans (by rw [hcb]; rfl)
          have HR1 := Aside0.mk HT.out.res
          have HB := Aside0.mk HT.out.below
          have HV := Aside0.mk (looseD_no HO0.out HLb.out (fun h => by have h2 := h.2.1; simp only [hgd] at h2; cases h2))
          clear HLb hgd
          have d0 : _ = some (Value.int .i64 0) := (blk_cell HR1.out 0).trans rfl
          have d1 : _ = some (Value.int .u64 0) := (blk_cell HR1.out 1).trans rfl
          have d2 : _ = some (Value.int .u64 0) := (blk_cell HR1.out 2).trans rfl
          have d3 : _ = some (Value.slice none 0 0) := (blk_cell HR1.out 3).trans rfl
          have d4 : _ = some (Value.int .i64 0) := (blk_cell HR1.out 4).trans rfl
          have d5 : _ = some (Value.slice none 0 0) := (blk_cell HR1.out 5).trans rfl
          have f0 := blk_frozen HR1.out 0
          have f1 := blk_frozen HR1.out 1
          have f2 := blk_frozen HR1.out 2
          have f3 := blk_frozen HR1.out 3
          have f4 := blk_frozen HR1.out 4
          have f5 := blk_frozen HR1.out 5
          go_wp2_with fail
          refine bodyPost_ret (v := .tuple #[.agg #[.int .i64 0, .int .u64 0, .int .u64 0, .slice none 0 0, .int .i64 0, .slice none 0 0], .int .i64 125]) (results_ct (fn := Tryd.f26) rfl _ _ w.heap.size 46 #[.int .i64 0, .int .u64 0, .int .u64 0, .slice none 0 0, .int .i64 0, .slice none 0 0] (0, 0) _ rfl (by exact (blk_set ((blk_set ((blk_set ((blk_set ((blk_set ((blk_set HR1.out 0 (.int .i64 0)).trans rfl) 1 (.int .u64 0)).trans rfl) 2 (.int .u64 0)).trans rfl) 3 (.slice none 0 0)).trans rfl) 4 (.int .i64 0)).trans rfl) 5 (.slice none 0 0)).trans rfl) Tryd.underlying46 rfl (by kernel_rfl)) rfl ?_
          refine ⟨_, by rw [HV.out.1, HV.out.2]; rfl, ?_, ((((((HB.out.setCell (p := ⟨w.heap.size, 0, none⟩) (Nat.le_refl _) _).setCell (p := ⟨w.heap.size, 1, none⟩) (Nat.le_refl _) _).setCell (p := ⟨w.heap.size, 2, none⟩) (Nat.le_refl _) _).setCell (p := ⟨w.heap.size, 3, none⟩) (Nat.le_refl _) _).setCell (p := ⟨w.heap.size, 4, none⟩) (Nat.le_refl _) _).setCell (p := ⟨w.heap.size, 5, none⟩) (Nat.le_refl _) _)⟩
          rw [HV.out.1]
          exact Kd.R_nil _ _ _ _ _
        case true =>
          have HE : Aside0 (strataref12_EncodeData.f K id lo hi l 0 ([] : List SE) = some ((fileOf ltD (byD id lo hi l)), 0)) := ⟨by rw [encD_f id lo hi 0 l [] lo_0 (by omega) K hK, hgd, if_pos rfl]⟩
          refine (strataref12_EncodeData.calls K id lo hi A cc l 0 none 0 [] _ _ _ HCc.out hcl (Kd.C_nil _ _) (Nat.le_refl _) HE.out).mono ?_
          rintro e w40 ⟨rfl, hb⟩
          have HT := Aside0.mk (HT.out.step hb)
          clear hb HCc hK HE
          have g2 : _ = some (Value.bool true) := (blk_cell HT.out.cur.1 2).trans (by rw [hcb]; rfl)
          have HR1 := Aside0.mk HT.out.res
          have HB := Aside0.mk HT.out.below
          have HV := Aside0.mk (looseD_no HO0.out HLb.out (fun h => by cases h.1))
          clear HLb hgd
          generalize fileOf ltD (byD id lo hi l) = fo
          have d0 : _ = some (Value.int .i64 0) := (blk_cell HR1.out 0).trans rfl
          have d1 : _ = some (Value.int .u64 0) := (blk_cell HR1.out 1).trans rfl
          have d2 : _ = some (Value.int .u64 0) := (blk_cell HR1.out 2).trans rfl
          have d3 : _ = some (Value.slice none 0 0) := (blk_cell HR1.out 3).trans rfl
          have d4 : _ = some (Value.int .i64 0) := (blk_cell HR1.out 4).trans rfl
          have d5 : _ = some (Value.slice none 0 0) := (blk_cell HR1.out 5).trans rfl
          have f0 := blk_frozen HR1.out 0
          have f1 := blk_frozen HR1.out 1
          have f2 := blk_frozen HR1.out 2
          have f3 := blk_frozen HR1.out 3
          have f4 := blk_frozen HR1.out 4
          have f5 := blk_frozen HR1.out 5
          go_wp2_with fail
          refine bodyPost_ret (v := .tuple #[.agg #[.int .i64 0, .int .u64 0, .int .u64 0, .slice none 0 0, .int .i64 0, .slice none 0 0], .int .i64 125]) (results_ct (fn := Tryd.f26) rfl _ _ w.heap.size 46 #[.int .i64 0, .int .u64 0, .int .u64 0, .slice none 0 0, .int .i64 0, .slice none 0 0] (0, 0) _ rfl (by exact (blk_set ((blk_set ((blk_set ((blk_set ((blk_set ((blk_set HR1.out 0 (.int .i64 0)).trans rfl) 1 (.int .u64 0)).trans rfl) 2 (.int .u64 0)).trans rfl) 3 (.slice none 0 0)).trans rfl) 4 (.int .i64 0)).trans rfl) 5 (.slice none 0 0)).trans rfl) Tryd.underlying46 rfl (by kernel_rfl)) rfl ?_
          refine ⟨_, by rw [HV.out.1, HV.out.2]; rfl, ?_, ((((((HB.out.setCell (p := ⟨w.heap.size, 0, none⟩) (Nat.le_refl _) _).setCell (p := ⟨w.heap.size, 1, none⟩) (Nat.le_refl _) _).setCell (p := ⟨w.heap.size, 2, none⟩) (Nat.le_refl _) _).setCell (p := ⟨w.heap.size, 3, none⟩) (Nat.le_refl _) _).setCell (p := ⟨w.heap.size, 4, none⟩) (Nat.le_refl _) _).setCell (p := ⟨w.heap.size, 5, none⟩) (Nat.le_refl _) _)⟩
          rw [HV.out.1]
          exact Kd.R_nil _ _ _ _ _
      case neg =>
        have hld := HLD.out
        rw [HL.out, hcb] at hld
        have hldb : ldD (ins b) = ((id, lo, hi, l), true) := by rw [← HSE.out]; exact hld
        have HLb := Aside0.mk hldb
        clear hld hldb HLD HL
        obtain ⟨A, cc, rfl, hcl, hC⟩ := Kd.R_reads HT.out.own
        have HCc := Aside0.mk hC
        clear hC
        have c0 : _ = some (Value.int .i64 id) := (blk_cell HT.out.pair 0).trans rfl
        have c1 : _ = some (Value.int .u64 lo) := (blk_cell HT.out.pair 1).trans rfl
        have c2 : _ = some (Value.int .u64 hi) := (blk_cell HT.out.pair 2).trans rfl
        have c3 : _ = some (Value.slice A l.length cc) := (blk_cell HT.out.pair 3).trans rfl
        have c4 : _ = some (Value.int .i64 0) := (blk_cell HT.out.pair 4).trans rfl
        have c5 : _ = some (Value.slice none 0 0) := (blk_cell HT.out.pair 5).trans rfl
        go_wp2_with fail
        clear c0 c1 c2 c3 c4 c5
        obtain ⟨K, hK⟩ : ∃ K : Nat, 13000000000000 ≤ K := ⟨_, Nat.le_refl _⟩
        cases hgd : gdD id lo hi l
        case false =>
          have HE : Aside0 (strataref12_EncodeData.f K id lo hi l 0 ([] : List SE) = some ((⟨#[]⟩ : ByteArray), 2)) := ⟨by rw [encD_f id lo hi 0 l [] lo_0 (by omega) K hK, hgd, if_neg (by decide)]⟩
          refine (strataref12_EncodeData.calls K id lo hi A cc l 0 none 0 [] _ _ _ HCc.out hcl (Kd.C_nil _ _) (Nat.le_refl _) HE.out).mono ?_
          rintro e w40 ⟨rfl, hb⟩
          have HT := Aside0.mk (HT.out.step hb)
          clear hb HCc hK HE
          have g2 : _ = some (Value.bool true) := (blk_cell HT.out.cur.1 2).trans (by rw [hcb]; rfl)
          have HR1 := Aside0.mk HT.out.res
          have HB := Aside0.mk HT.out.below
          have HV := Aside0.mk (looseD_no HO0.out HLb.out (fun h => by have h2 := h.2.1; simp only [hgd] at h2; cases h2))
          clear HLb hgd
          have d0 : _ = some (Value.int .i64 0) := (blk_cell HR1.out 0).trans rfl
          have d1 : _ = some (Value.int .u64 0) := (blk_cell HR1.out 1).trans rfl
          have d2 : _ = some (Value.int .u64 0) := (blk_cell HR1.out 2).trans rfl
          have d3 : _ = some (Value.slice none 0 0) := (blk_cell HR1.out 3).trans rfl
          have d4 : _ = some (Value.int .i64 0) := (blk_cell HR1.out 4).trans rfl
          have d5 : _ = some (Value.slice none 0 0) := (blk_cell HR1.out 5).trans rfl
          have f0 := blk_frozen HR1.out 0
          have f1 := blk_frozen HR1.out 1
          have f2 := blk_frozen HR1.out 2
          have f3 := blk_frozen HR1.out 3
          have f4 := blk_frozen HR1.out 4
          have f5 := blk_frozen HR1.out 5
          go_wp2_with fail
          refine bodyPost_ret (v := .tuple #[.agg #[.int .i64 0, .int .u64 0, .int .u64 0, .slice none 0 0, .int .i64 0, .slice none 0 0], .int .i64 125]) (results_ct (fn := Tryd.f26) rfl _ _ w.heap.size 46 #[.int .i64 0, .int .u64 0, .int .u64 0, .slice none 0 0, .int .i64 0, .slice none 0 0] (0, 0) _ rfl (by exact (blk_set ((blk_set ((blk_set ((blk_set ((blk_set ((blk_set HR1.out 0 (.int .i64 0)).trans rfl) 1 (.int .u64 0)).trans rfl) 2 (.int .u64 0)).trans rfl) 3 (.slice none 0 0)).trans rfl) 4 (.int .i64 0)).trans rfl) 5 (.slice none 0 0)).trans rfl) Tryd.underlying46 rfl (by kernel_rfl)) rfl ?_
          refine ⟨_, by rw [HV.out.1, HV.out.2]; rfl, ?_, ((((((HB.out.setCell (p := ⟨w.heap.size, 0, none⟩) (Nat.le_refl _) _).setCell (p := ⟨w.heap.size, 1, none⟩) (Nat.le_refl _) _).setCell (p := ⟨w.heap.size, 2, none⟩) (Nat.le_refl _) _).setCell (p := ⟨w.heap.size, 3, none⟩) (Nat.le_refl _) _).setCell (p := ⟨w.heap.size, 4, none⟩) (Nat.le_refl _) _).setCell (p := ⟨w.heap.size, 5, none⟩) (Nat.le_refl _) _)⟩
          rw [HV.out.1]
          exact Kd.R_nil _ _ _ _ _
        case true =>
          have HE : Aside0 (strataref12_EncodeData.f K id lo hi l 0 ([] : List SE) = some ((fileOf ltD (byD id lo hi l)), 0)) := ⟨by rw [encD_f id lo hi 0 l [] lo_0 (by omega) K hK, hgd, if_pos rfl]⟩
          refine (strataref12_EncodeData.calls K id lo hi A cc l 0 none 0 [] _ _ _ HCc.out hcl (Kd.C_nil _ _) (Nat.le_refl _) HE.out).mono ?_
          rintro e w40 ⟨rfl, hb⟩
          have HT := Aside0.mk (HT.out.step hb)
          clear hb HCc hK HE
          have g2 : _ = some (Value.bool true) := (blk_cell HT.out.cur.1 2).trans (by rw [hcb]; rfl)
          have HR1 := Aside0.mk HT.out.res
          have HB := Aside0.mk HT.out.below
          have HV := Aside0.mk (looseD_no HO0.out HLb.out (fun h => by cases h.1))
          clear HLb hgd
          generalize fileOf ltD (byD id lo hi l) = fo
          have d0 : _ = some (Value.int .i64 0) := (blk_cell HR1.out 0).trans rfl
          have d1 : _ = some (Value.int .u64 0) := (blk_cell HR1.out 1).trans rfl
          have d2 : _ = some (Value.int .u64 0) := (blk_cell HR1.out 2).trans rfl
          have d3 : _ = some (Value.slice none 0 0) := (blk_cell HR1.out 3).trans rfl
          have d4 : _ = some (Value.int .i64 0) := (blk_cell HR1.out 4).trans rfl
          have d5 : _ = some (Value.slice none 0 0) := (blk_cell HR1.out 5).trans rfl
          have f0 := blk_frozen HR1.out 0
          have f1 := blk_frozen HR1.out 1
          have f2 := blk_frozen HR1.out 2
          have f3 := blk_frozen HR1.out 3
          have f4 := blk_frozen HR1.out 4
          have f5 := blk_frozen HR1.out 5
          go_wp2_with fail
          refine bodyPost_ret (v := .tuple #[.agg #[.int .i64 0, .int .u64 0, .int .u64 0, .slice none 0 0, .int .i64 0, .slice none 0 0], .int .i64 125]) (results_ct (fn := Tryd.f26) rfl _ _ w.heap.size 46 #[.int .i64 0, .int .u64 0, .int .u64 0, .slice none 0 0, .int .i64 0, .slice none 0 0] (0, 0) _ rfl (by exact (blk_set ((blk_set ((blk_set ((blk_set ((blk_set ((blk_set HR1.out 0 (.int .i64 0)).trans rfl) 1 (.int .u64 0)).trans rfl) 2 (.int .u64 0)).trans rfl) 3 (.slice none 0 0)).trans rfl) 4 (.int .i64 0)).trans rfl) 5 (.slice none 0 0)).trans rfl) Tryd.underlying46 rfl (by kernel_rfl)) rfl ?_
          refine ⟨_, by rw [HV.out.1, HV.out.2]; rfl, ?_, ((((((HB.out.setCell (p := ⟨w.heap.size, 0, none⟩) (Nat.le_refl _) _).setCell (p := ⟨w.heap.size, 1, none⟩) (Nat.le_refl _) _).setCell (p := ⟨w.heap.size, 2, none⟩) (Nat.le_refl _) _).setCell (p := ⟨w.heap.size, 3, none⟩) (Nat.le_refl _) _).setCell (p := ⟨w.heap.size, 4, none⟩) (Nat.le_refl _) _).setCell (p := ⟨w.heap.size, 5, none⟩) (Nat.le_refl _) _)⟩
          rw [HV.out.1]
          exact Kd.R_nil _ _ _ _ _
    have g2 : _ = some (Value.bool false) := (blk_cell HT.out.cur.1 2).trans (by rw [hcb]; rfl)
    by_cases hlt : l.length < N
    case neg =>
      have hL : LR = (l, c) := by
        rw [← HLR.out, show N - l.length = 0 by omega]
        rfl
      have HL := Aside0.mk hL
      clear hL HLR
      have hld := HLD.out
      rw [HL.out, hcb] at hld
      have hldb : ldD (ins b) = ((id, lo, hi, l), false) := by rw [← HSE.out]; exact hld
      have HLb := Aside0.mk hldb
      clear hld hldb HLD HL
      obtain ⟨A, cc, rfl, hcl, hC⟩ := Kd.R_reads HT.out.own
      have HCc := Aside0.mk hC
      clear hC
      have c0 : _ = some (Value.int .i64 id) := (blk_cell HT.out.pair 0).trans rfl
      have c1 : _ = some (Value.int .u64 lo) := (blk_cell HT.out.pair 1).trans rfl
      have c2 : _ = some (Value.int .u64 hi) := (blk_cell HT.out.pair 2).trans rfl
      have c3 : _ = some (Value.slice A l.length cc) := (blk_cell HT.out.pair 3).trans rfl
      have c4 : _ = some (Value.int .i64 0) := (blk_cell HT.out.pair 4).trans rfl
      have c5 : _ = some (Value.slice none 0 0) := (blk_cell HT.out.pair 5).trans rfl
      go_wp2_with fail
      clear c0 c1 c2 c3 c4 c5
      obtain ⟨K, hK⟩ : ∃ K : Nat, 13000000000000 ≤ K := ⟨_, Nat.le_refl _⟩
      cases hgd : gdD id lo hi l
      case false =>
        have HE : Aside0 (strataref12_EncodeData.f K id lo hi l 0 ([] : List SE) = some ((⟨#[]⟩ : ByteArray), 2)) := ⟨by rw [encD_f id lo hi 0 l [] lo_0 (by omega) K hK, hgd, if_neg (by decide)]⟩
        refine (strataref12_EncodeData.calls K id lo hi A cc l 0 none 0 [] _ _ _ HCc.out hcl (Kd.C_nil _ _) (Nat.le_refl _) HE.out).mono ?_
        rintro e w40 ⟨rfl, hb⟩
        have HT := Aside0.mk (HT.out.step hb)
        clear hb HCc hK HE
        have g2 : _ = some (Value.bool false) := (blk_cell HT.out.cur.1 2).trans (by rw [hcb]; rfl)
        have HR1 := Aside0.mk HT.out.res
        have HB := Aside0.mk HT.out.below
        have HV := Aside0.mk (looseD_no HO0.out HLb.out (fun h => by have h2 := h.2.1; simp only [hgd] at h2; cases h2))
        clear HLb hgd
        have d0 : _ = some (Value.int .i64 0) := (blk_cell HR1.out 0).trans rfl
        have d1 : _ = some (Value.int .u64 0) := (blk_cell HR1.out 1).trans rfl
        have d2 : _ = some (Value.int .u64 0) := (blk_cell HR1.out 2).trans rfl
        have d3 : _ = some (Value.slice none 0 0) := (blk_cell HR1.out 3).trans rfl
        have d4 : _ = some (Value.int .i64 0) := (blk_cell HR1.out 4).trans rfl
        have d5 : _ = some (Value.slice none 0 0) := (blk_cell HR1.out 5).trans rfl
        have f0 := blk_frozen HR1.out 0
        have f1 := blk_frozen HR1.out 1
        have f2 := blk_frozen HR1.out 2
        have f3 := blk_frozen HR1.out 3
        have f4 := blk_frozen HR1.out 4
        have f5 := blk_frozen HR1.out 5
        go_wp2_with fail
        refine bodyPost_ret (v := .tuple #[.agg #[.int .i64 0, .int .u64 0, .int .u64 0, .slice none 0 0, .int .i64 0, .slice none 0 0], .int .i64 125]) (results_ct (fn := Tryd.f26) rfl _ _ w.heap.size 46 #[.int .i64 0, .int .u64 0, .int .u64 0, .slice none 0 0, .int .i64 0, .slice none 0 0] (0, 0) _ rfl (by exact (blk_set ((blk_set ((blk_set ((blk_set ((blk_set ((blk_set HR1.out 0 (.int .i64 0)).trans rfl) 1 (.int .u64 0)).trans rfl) 2 (.int .u64 0)).trans rfl) 3 (.slice none 0 0)).trans rfl) 4 (.int .i64 0)).trans rfl) 5 (.slice none 0 0)).trans rfl) Tryd.underlying46 rfl (by kernel_rfl)) rfl ?_
        refine ⟨_, by rw [HV.out.1, HV.out.2]; rfl, ?_, ((((((HB.out.setCell (p := ⟨w.heap.size, 0, none⟩) (Nat.le_refl _) _).setCell (p := ⟨w.heap.size, 1, none⟩) (Nat.le_refl _) _).setCell (p := ⟨w.heap.size, 2, none⟩) (Nat.le_refl _) _).setCell (p := ⟨w.heap.size, 3, none⟩) (Nat.le_refl _) _).setCell (p := ⟨w.heap.size, 4, none⟩) (Nat.le_refl _) _).setCell (p := ⟨w.heap.size, 5, none⟩) (Nat.le_refl _) _)⟩
        rw [HV.out.1]
        exact Kd.R_nil _ _ _ _ _
      case true =>
        have HE : Aside0 (strataref12_EncodeData.f K id lo hi l 0 ([] : List SE) = some ((fileOf ltD (byD id lo hi l)), 0)) := ⟨by rw [encD_f id lo hi 0 l [] lo_0 (by omega) K hK, hgd, if_pos rfl]⟩
        refine (strataref12_EncodeData.calls K id lo hi A cc l 0 none 0 [] _ _ _ HCc.out hcl (Kd.C_nil _ _) (Nat.le_refl _) HE.out).mono ?_
        rintro e w40 ⟨rfl, hb⟩
        have HT := Aside0.mk (HT.out.step hb)
        clear hb HCc hK HE
        have g2 : _ = some (Value.bool false) := (blk_cell HT.out.cur.1 2).trans (by rw [hcb]; rfl)
        have HR1 := Aside0.mk HT.out.res
        have HB := Aside0.mk HT.out.below
        by_cases hf : fileOf ltD (byD id lo hi l) = b
        case neg =>
          have HV := Aside0.mk (looseD_no HO0.out HLb.out (fun h => hf h.2.2))
          have kq : ((fileOf ltD (byD id lo hi l)).toList == b.toList) = false := beq_eq_false_iff_ne.2 (fun h => hf (ba_ext (by rw [← toList_data, ← toList_data, h])))
          generalize fileOf ltD (byD id lo hi l) = fo at kq ⊢
          clear HLb hgd hf
          have d0 : _ = some (Value.int .i64 0) := (blk_cell HR1.out 0).trans rfl
          have d1 : _ = some (Value.int .u64 0) := (blk_cell HR1.out 1).trans rfl
          have d2 : _ = some (Value.int .u64 0) := (blk_cell HR1.out 2).trans rfl
          have d3 : _ = some (Value.slice none 0 0) := (blk_cell HR1.out 3).trans rfl
          have d4 : _ = some (Value.int .i64 0) := (blk_cell HR1.out 4).trans rfl
          have d5 : _ = some (Value.slice none 0 0) := (blk_cell HR1.out 5).trans rfl
          have f0 := blk_frozen HR1.out 0
          have f1 := blk_frozen HR1.out 1
          have f2 := blk_frozen HR1.out 2
          have f3 := blk_frozen HR1.out 3
          have f4 := blk_frozen HR1.out 4
          have f5 := blk_frozen HR1.out 5
          go_wp2_with fail
          refine bodyPost_ret (v := .tuple #[.agg #[.int .i64 0, .int .u64 0, .int .u64 0, .slice none 0 0, .int .i64 0, .slice none 0 0], .int .i64 125]) (results_ct (fn := Tryd.f26) rfl _ _ w.heap.size 46 #[.int .i64 0, .int .u64 0, .int .u64 0, .slice none 0 0, .int .i64 0, .slice none 0 0] (0, 0) _ rfl (by exact (blk_set ((blk_set ((blk_set ((blk_set ((blk_set ((blk_set HR1.out 0 (.int .i64 0)).trans rfl) 1 (.int .u64 0)).trans rfl) 2 (.int .u64 0)).trans rfl) 3 (.slice none 0 0)).trans rfl) 4 (.int .i64 0)).trans rfl) 5 (.slice none 0 0)).trans rfl) Tryd.underlying46 rfl (by kernel_rfl)) rfl ?_
          refine ⟨_, by rw [HV.out.1, HV.out.2]; rfl, ?_, ((((((HB.out.setCell (p := ⟨w.heap.size, 0, none⟩) (Nat.le_refl _) _).setCell (p := ⟨w.heap.size, 1, none⟩) (Nat.le_refl _) _).setCell (p := ⟨w.heap.size, 2, none⟩) (Nat.le_refl _) _).setCell (p := ⟨w.heap.size, 3, none⟩) (Nat.le_refl _) _).setCell (p := ⟨w.heap.size, 4, none⟩) (Nat.le_refl _) _).setCell (p := ⟨w.heap.size, 5, none⟩) (Nat.le_refl _) _)⟩
          rw [HV.out.1]
          exact Kd.R_nil _ _ _ _ _
        have HV := Aside0.mk (looseD_yes HO0.out HLb.out rfl hgd hf)
        have HO := Aside0.mk HT.out.own
        rw [hf]
        clear HLb hgd hf
        have kq : (b.toList == b.toList) = true := beq_iff_eq.2 rfl
        have c0 : _ = some (Value.int .i64 id) := (blk_cell HT.out.pair 0).trans rfl
        have c1 : _ = some (Value.int .u64 lo) := (blk_cell HT.out.pair 1).trans rfl
        have c2 : _ = some (Value.int .u64 hi) := (blk_cell HT.out.pair 2).trans rfl
        have c3 : _ = some (Value.slice A l.length cc) := (blk_cell HT.out.pair 3).trans rfl
        have c4 : _ = some (Value.int .i64 0) := (blk_cell HT.out.pair 4).trans rfl
        have c5 : _ = some (Value.slice none 0 0) := (blk_cell HT.out.pair 5).trans rfl
        have d0 : _ = some (Value.int .i64 0) := (blk_cell HR1.out 0).trans rfl
        have d1 : _ = some (Value.int .u64 0) := (blk_cell HR1.out 1).trans rfl
        have d2 : _ = some (Value.int .u64 0) := (blk_cell HR1.out 2).trans rfl
        have d3 : _ = some (Value.slice none 0 0) := (blk_cell HR1.out 3).trans rfl
        have d4 : _ = some (Value.int .i64 0) := (blk_cell HR1.out 4).trans rfl
        have d5 : _ = some (Value.slice none 0 0) := (blk_cell HR1.out 5).trans rfl
        have f0 := blk_frozen HR1.out 0
        have f1 := blk_frozen HR1.out 1
        have f2 := blk_frozen HR1.out 2
        have f3 := blk_frozen HR1.out 3
        have f4 := blk_frozen HR1.out 4
        have f5 := blk_frozen HR1.out 5
        go_wp2_with fail
        refine bodyPost_ret (v := .tuple #[.agg #[.int .i64 id, .int .u64 lo, .int .u64 hi, .slice A l.length cc, .int .i64 0, .slice none 0 0], .int .i64 0]) (results_ct (fn := Tryd.f26) rfl _ _ w.heap.size 46 #[.int .i64 id, .int .u64 lo, .int .u64 hi, .slice A l.length cc, .int .i64 0, .slice none 0 0] (0, 0) _ rfl (by exact (blk_set ((blk_set ((blk_set ((blk_set ((blk_set ((blk_set HR1.out 0 (.int .i64 id)).trans rfl) 1 (.int .u64 lo)).trans rfl) 2 (.int .u64 hi)).trans rfl) 3 (.slice A l.length cc)).trans rfl) 4 (.int .i64 0)).trans rfl) 5 (.slice none 0 0)).trans rfl) Tryd.underlying46 rfl (by kernel_rfl)) rfl ?_
        refine ⟨_, by rw [HV.out.1, HV.out.2]; rfl, ?_, ((((((HB.out.setCell (p := ⟨w.heap.size, 0, none⟩) (Nat.le_refl _) _).setCell (p := ⟨w.heap.size, 1, none⟩) (Nat.le_refl _) _).setCell (p := ⟨w.heap.size, 2, none⟩) (Nat.le_refl _) _).setCell (p := ⟨w.heap.size, 3, none⟩) (Nat.le_refl _) _).setCell (p := ⟨w.heap.size, 4, none⟩) (Nat.le_refl _) _).setCell (p := ⟨w.heap.size, 5, none⟩) (Nat.le_refl _) _)⟩
        rw [HV.out.1]
        exact Kd.R_mono (Kd.R_far (p := ⟨w.heap.size, 5, none⟩) (Kd.R_far (p := ⟨w.heap.size, 4, none⟩) (Kd.R_far (p := ⟨w.heap.size, 3, none⟩) (Kd.R_far (p := ⟨w.heap.size, 2, none⟩) (Kd.R_far (p := ⟨w.heap.size, 1, none⟩) (Kd.R_far (p := ⟨w.heap.size, 0, none⟩) (Kd.R_types HO.out HR1.out (by decide)) (fun _ hk => hk.2) _) (fun _ hk => hk.2) _) (fun _ hk => hk.2) _) (fun _ hk => hk.2) _) (fun _ hk => hk.2) _) (fun _ hk => hk.2) _) (fun _ _ => trivial)
    obtain ⟨m, hm⟩ : ∃ m, N - l.length = m + 1 := ⟨N - l.length - 1, by omega⟩
    have hLR := HLR.out
    rw [hm] at hLR
    simp only [lr, hcb, Bool.false_eq_true, if_false] at hLR
    have HLR := Aside0.mk hLR
    clear hLR
    obtain ⟨hc0, hc1, hc2⟩ := hc hcb
    clear hc
    go_wp2_with fail
    clear g2
    obtain ⟨a, c_a, hr_a⟩ : ∃ x y, cn s c = (x, y) := ⟨_, _, rfl⟩
    have rg_a := cn_rng s c
    rw [hr_a] at rg_a
    obtain ⟨a_0, a_1, a_a⟩ := rg_a
    simp only at a_0 a_1
    refine (num_any gb s c w _ HS.out HT.out.cur HT.out.below).mono ?_
    rw [hr_a]
    rintro e w15 ⟨rfl, hI, hB, hK⟩
    have HT := Aside0.mk (HT.out.reads (by decide) hI hB hK)
    clear hI hB hK
    have HV := Aside0.mk (heap_alloc_new w15 (.cells #[.int .u64 (IntKind.u64.wrap (last + a)), .string (⟨#[]⟩ : ByteArray), .string (⟨#[]⟩ : ByteArray)] 58))
    have hnb : w.heap.size < w15.heap.size ∧ w15.heap.size ≠ pb ∧ w15.heap.size ≠ gb := ⟨blk_lt HT.out.res, Nat.ne_of_gt (blk_lt HT.out.pair), Nat.ne_of_gt (blk_lt HT.out.cur.1)⟩
    have HT := Aside0.mk (HT.out.new (.cells #[.int .u64 (IntKind.u64.wrap (last + a)), .string (⟨#[]⟩ : ByteArray), .string (⟨#[]⟩ : ByteArray)] 58))
    go_wp2_with fail
    obtain ⟨nb, hnbe⟩ : ∃ nb, nb = w15.heap.size := ⟨_, rfl⟩
    rw [← hnbe] at HV HT hnb ⊢
    clear hnbe
    obtain ⟨key, c_key, hr_key⟩ : ∃ x y, ct s c_a = (x, y) := ⟨_, _, rfl⟩
    have rg_key := ct_rng s c_a
    rw [hr_key] at rg_key
    obtain ⟨key_0, key_a⟩ := rg_key
    simp only at key_0
    refine (text_any gb s c_a w _ HS.out HT.out.cur HT.out.below).mono ?_
    rw [hr_key]
    rintro e w16 ⟨rfl, hI, hB, hK⟩
    have HT := Aside0.mk (HT.out.reads (by decide) hI hB hK)
    have HV := Aside0.mk ((hK.2 _ (blk_lt HV.out) hnb.2.2 (by simp)).trans HV.out)
    clear hI hB hK
    have y0 : _ = some (Value.int .u64 (IntKind.u64.wrap (last + a))) := (blk_cell HV.out 0).trans rfl
    have y1 : _ = some (Value.string (⟨#[]⟩ : ByteArray)) := (blk_cell HV.out 1).trans rfl
    have y2 : _ = some (Value.string (⟨#[]⟩ : ByteArray)) := (blk_cell HV.out 2).trans rfl
    have gf := blk_frozen HV.out 1
    have HV : Aside0 ((w16.setCell ⟨nb, 1, none⟩ (.string key)).heap[nb]? = some (.cells #[.int .u64 (IntKind.u64.wrap (last + a)), .string key, .string (⟨#[]⟩ : ByteArray)] 58 (0, 0))) := ⟨(blk_set HV.out 1 (.string key)).trans rfl⟩
    have HT := Aside0.mk (HT.out.far hnb 1 (.string key))
    go_wp2_with fail
    clear y0 y1 y2 gf
    obtain ⟨dat, c_dat, hr_dat⟩ : ∃ x y, ct s c_key = (x, y) := ⟨_, _, rfl⟩
    have rg_dat := ct_rng s c_key
    rw [hr_dat] at rg_dat
    obtain ⟨dat_0, dat_a⟩ := rg_dat
    simp only at dat_0
    refine (text_any gb s c_key w _ HS.out HT.out.cur HT.out.below).mono ?_
    rw [hr_dat]
    rintro e w17 ⟨rfl, hI, hB, hK⟩
    have HT := Aside0.mk (HT.out.reads (by decide) hI hB hK)
    have HV := Aside0.mk ((hK.2 _ (blk_lt HV.out) hnb.2.2 (by simp)).trans HV.out)
    clear hI hB hK
    have y0 : _ = some (Value.int .u64 (IntKind.u64.wrap (last + a))) := (blk_cell HV.out 0).trans rfl
    have y1 : _ = some (Value.string key) := (blk_cell HV.out 1).trans rfl
    have y2 : _ = some (Value.string (⟨#[]⟩ : ByteArray)) := (blk_cell HV.out 2).trans rfl
    have gf := blk_frozen HV.out 2
    have HV : Aside0 ((w17.setCell ⟨nb, 2, none⟩ (.string dat)).heap[nb]? = some (.cells #[.int .u64 (IntKind.u64.wrap (last + a)), .string key, .string dat] 58 (0, 0))) := ⟨(blk_set HV.out 2 (.string dat)).trans rfl⟩
    have HT := Aside0.mk (HT.out.far hnb 2 (.string dat))
    go_upto_region 15 with (fail)
    clear y0 y1 y2 gf
    have y0 : _ = some (Value.int .u64 (IntKind.u64.wrap (last + a))) := (blk_cell HV.out 0).trans rfl
    have y1 : _ = some (Value.string key) := (blk_cell HV.out 1).trans rfl
    have y2 : _ = some (Value.string dat) := (blk_cell HV.out 2).trans rfl
    have HTo := HT
    have c0 : _ = some (Value.int .i64 id) := (blk_cell HT.out.pair 0).trans rfl
    have c1 : _ = some (Value.int .u64 lo) := (blk_cell HT.out.pair 1).trans rfl
    have c2 : _ = some (Value.int .u64 hi) := (blk_cell HT.out.pair 2).trans rfl
    have c3 : _ = some (u) := (blk_cell HT.out.pair 3).trans rfl
    have c4 : _ = some (Value.int .i64 0) := (blk_cell HT.out.pair 4).trans rfl
    have c5 : _ = some (Value.slice none 0 0) := (blk_cell HT.out.pair 5).trans rfl
    have ff := blk_frozen HT.out.pair 3
    go_wp2_with ((with_reducible refine gate_builtin (b := .append) (xs := #[.tmp 64, .tmp 66]) rfl ?_); go_loud (at_builtin; refine Kd.R_append k58 (w0 := w) w.heap.size rfl (.tmp 64) (.tmp 66) 43 58 (.agg #[.int .u64 0, .string ⟨#[]⟩, .string ⟨#[]⟩]) 40 rfl Tryd.underlying43 info58 rfl (by decide) (by omega) u l (⟨IntKind.u64.wrap (last + a), key, dat⟩ : SD) [.int .u64 (IntKind.u64.wrap (last + a)), .string key, .string dat] (fun k => k ≠ nb) (fun _ => False) rfl (by first | (go_simp; done) | (go_simp; rfl)) ?aP (fun _ hk => hk.elim) ?aF ?aO ?aB ?aS ?aL ?_; (case aP => exact k58_mkM _ _ _ (⟨IntKind.u64.wrap (last + a), key, dat⟩ : SD)); (case aF => exact (fun k hk => Nat.ne_of_gt (Nat.lt_of_lt_of_le (blk_lt HV.out) hk))); (case aO => exact HT.out.own); (case aB => exact HT.out.below); (case aS => exact HT.out.below.size); (case aL => omega); clear c0 c1 c2 c3 c4 c5 y0 y1 y2 ff; intro u' w99 ho hb hg hat; obtain ⟨A', c', rfl⟩ := Kd.R_slice ho; have HT := Aside0.mk (HT.out.more (by decide) (by decide) hb hg ho 3); have c3 : _ = some u := (blk_cell ((hg.block _ (blk_lt HTo.out.pair) (Kd.R_ne HTo.out.own HTo.out.pair (by decide))).trans HTo.out.pair) 3).trans rfl; have ff := blk_frozen ((hg.block _ (blk_lt HTo.out.pair) (Kd.R_ne HTo.out.own HTo.out.pair (by decide))).trans HTo.out.pair) 3; clear ho hb hg hat))
    have hlen : (l ++ [(⟨IntKind.u64.wrap (last + a), key, dat⟩ : SD)]).length = l.length + 1 := by rw [List.length_append, List.length_singleton]
    rw [hlen] at HT
    have hrec : lrD s last c = ((⟨IntKind.u64.wrap (last + a), key, dat⟩ : SD), c_dat) := by unfold lrD; simp only [hr_a, hr_key, hr_dat]
    have hLR := HLR.out
    rw [hrec] at hLR
    have HLR := Aside0.mk hLR
    clear hLR hrec hr_a hr_key hr_dat
    have wb : 0 ≤ IntKind.u64.wrap (last + a) ∧ IntKind.u64.wrap (last + a) ≤ 18446744073709551615 := by rw [wu64_mod]; omega
    have hcc : c_dat.2 = false → 0 ≤ c_dat.1 ∧ ((l ++ [(⟨IntKind.u64.wrap (last + a), key, dat⟩ : SD)]).length : Int) ≤ c_dat.1 ∧ c_dat.1 ≤ s.size := by
      intro h
      obtain ⟨q_dat, p_dat, e_dat⟩ := dat_a h
      obtain ⟨q_key, p_key, e_key⟩ := key_a q_dat
      obtain ⟨q_a, p_a, e_a⟩ := a_a q_key
      rw [hlen]
      omega
    clear a_a key_a dat_a
    go_roundw
    case rel => exact ⟨l.length + 1, c_dat, IntKind.u64.wrap (last + a), .slice A' (l.length + 1) c', l ++ [(⟨IntKind.u64.wrap (last + a), key, dat⟩ : SD)], by go_num, rfl, wb, by omega, hlen, hcc, by rw [hlen]; omega, ⟨HT.out.free (by decide)⟩, ⟨by rw [show N - (l.length + 1) = m by omega]; exact HLR.out⟩⟩
    case measure => simp [intOf]; omega
end Go.Proofs.YtejjidggnnhgjaaDoor.HImSd
/- EncodeDelta of layer 12, by the document: bytes appended to a row of the call's own. -/
set_option linter.unusedVariables false
set_option linter.unusedSimpArgs false
namespace Go.Proofs.YtejjidggnnhgjaaDoor.HImEr
open Go.RowKit Go.Proofs.YtejjidggnnhgjaaDoor.PImg Go.Proofs.YtejjidggnnhgjaaDoor.HBase Go.Proofs.YtejjidggnnhgjaaDoor.HBlob Go.Proofs.YtejjidggnnhgjaaDoor.HCk Go.Proofs.YtejjidggnnhgjaaDoor.HImP Go.Proofs.YtejjidggnnhgjaaDoor.HImD Go.Proofs.YtejjidggnnhgjaaDoor.HImE Go.Proofs.YtejjidggnnhgjaaDoor.HImK Go.Proofs.YtejjidggnnhgjaaDoor.HImKe Go.Proofs.YtejjidggnnhgjaaDoorW.PrintWords Go.Proofs.YtejjidggnnhgjaaDoorW.PrintLast Go.Proofs.YtejjidggnnhgjaaDoorW.PrintMore Go.Proofs.YtejjidggnnhgjaaDoor.HCore
/-- What stands while bytes are appended: the row, and the parameter's block. -/
structure Ap (w W : World) (v : Value) (l : List UInt8) (cs : Array Value) : Prop where
  own : W.ownsRow w.heap.size 5 1 v (nb l).length (nums .u8 (nb l))
  below : Below w.heap.size w W
  box : W.heap[w.heap.size]? = some (.cells cs 46 (0, 0))
theorem Ap.step {w W W' : World} {v : Value} {l : List UInt8} {cs : Array Value} (h : Ap w W v l cs) (hb : Below W.heap.size W W') : Ap w W' v l cs :=
  ⟨Kd.own_of_R (enc := Value.int .u8) (h1 := fun _ => rfl) (Kd.R_below (Kd.R_of_own (enc := Value.int .u8) (h1 := fun _ => rfl) (ok := fun _ => True) h.own (fun _ _ => trivial)) hb), below_then h.below h.below.size hb, (hb.block _ (blk_lt h.box)).trans h.box⟩
end Go.Proofs.YtejjidggnnhgjaaDoor.HImEr
/- EncodeData of layer 12, by the program. -/
set_option linter.unusedVariables false
set_option linter.unusedSimpArgs false
namespace Go.Proofs.YtejjidggnnhgjaaDoor.HImEd
open Go.RowKit Go.Proofs.YtejjidggnnhgjaaDoor.PImg Go.Proofs.YtejjidggnnhgjaaDoor.HBase Go.Proofs.YtejjidggnnhgjaaDoor.HBlob Go.Proofs.YtejjidggnnhgjaaDoor.HSum Go.Proofs.YtejjidggnnhgjaaDoor.HCk Go.Proofs.YtejjidggnnhgjaaDoor.HBuildW Go.Proofs.YtejjidggnnhgjaaDoor.HImgW Go.Proofs.YtejjidggnnhgjaaDoor.HImP Go.Proofs.YtejjidggnnhgjaaDoor.HImD Go.Proofs.YtejjidggnnhgjaaDoor.HImE Go.Proofs.YtejjidggnnhgjaaDoorW.PrintWords Go.Proofs.YtejjidggnnhgjaaDoorW.PrintLast Go.Proofs.YtejjidggnnhgjaaDoorW.PrintMore Go.Proofs.YtejjidggnnhgjaaDoor.HCore
set_option maxRecDepth 100000 in
set_option maxHeartbeats 1000000 in
theorem no (k : Nat) (id lo hi gen : Int) (A : Option Addr) (c : Nat) (ds : List SD) (A2 : Option Addr) (c2 : Nat) (es : List SE) (w : World) (hC : Kd.C k58 w A ds.length ds) (hc : ds.length ≤ c) (hC2 : Kd.C k60 w A2 es.length es) (hc2 : es.length ≤ c2) (hg : image_goodData.f k id lo hi ds gen es = some false) :
    Calls Tryd.prog 23 #[.agg #[.int .i64 id, .int .u64 lo, .int .u64 hi, .slice A ds.length c, .int .i64 gen, .slice A2 es.length c2]] w fun e w' => e = .returned (.tuple #[.string (⟨#[]⟩ : ByteArray), .int .i64 2]) ∧ Below w.heap.size w w' := by
  have HG := Aside0.mk hg
  have HC := Aside0.mk hC
  have HC2 := Aside0.mk hC2
  clear hC hC2 hg
  go_enter Tryd.func23, Tryd.ntmps23
  go_wp2_with fail
  refine (image_goodData.calls k id lo hi A c ds gen A2 c2 es false _ (Kd.C_alloc HC.out _) hc (Kd.C_alloc HC2.out _) hc2 HG.out).mono ?_
  rintro e w1 ⟨rfl, hb1⟩
  have HB1 := Aside0.mk (below_then (below_alloc (Below.refl w.heap.size w) (.cells #[.int .i64 id, .int .u64 lo, .int .u64 hi, .slice A ds.length c, .int .i64 gen, .slice A2 es.length c2] 46)) (by simp) hb1)
  clear hb1
  go_wp2
  go_ret2
  exact ⟨rfl, HB1.out⟩
set_option maxRecDepth 100000 in
set_option maxHeartbeats 8000000 in
theorem yes (k : Nat) (id lo hi gen : Int) (A : Option Addr) (c : Nat) (ds : List SD) (A2 : Option Addr) (c2 : Nat) (es : List SE) (w : World) (hC : Kd.C k58 w A ds.length ds) (hc : ds.length ≤ c) (hC2 : Kd.C k60 w A2 es.length es) (hc2 : es.length ≤ c2) (hT : Tab w) (hg : image_goodData.f k id lo hi ds gen es = some true) (h0 : 0 ≤ lo) (hgd : gdD id lo hi ds = true) :
    Calls Tryd.prog 23 #[.agg #[.int .i64 id, .int .u64 lo, .int .u64 hi, .slice A ds.length c, .int .i64 gen, .slice A2 es.length c2]] w fun e w' => e = .returned (.tuple #[.string (fileOf ltD (byD id lo hi ds)), .int .i64 0]) ∧ Below w.heap.size w w' := by
  obtain ⟨⟨g1, g2, g3, g4, g5⟩, g6⟩ := gdD_parts hgd
  have HG := Aside0.mk hg
  have HC := Aside0.mk hC
  have HC2 := Aside0.mk hC2
  have HT := Aside0.mk hT
  have HO := Aside0.mk (okD_nonneg ds lo h0 g6)
  have HY : Aside0 (ltD.data.toList ++ byD id lo hi ds = (ltD.data.toList ++ ub id ++ ub lo ++ ub (hi - lo) ++ ub (ds.length : Int)) ++ ens wrD nxD lo ds) := ⟨by unfold byD; simp only [List.append_assoc]⟩
  have u0 : ltD.data.toList.length = 8 := rfl
  have u1 := ub_len (id)
  have u2 := ub_len (lo)
  have u3 := ub_len (hi - lo)
  have u4 := ub_len ((ds.length : Int))
  clear hC hT hgd g6 hC2 hg
  go_enter Tryd.func23, Tryd.ntmps23
  go_wp2_with fail
  refine (image_goodData.calls k id lo hi A c ds gen A2 c2 es true _ (Kd.C_alloc HC.out _) hc (Kd.C_alloc HC2.out _) hc2 HG.out).mono ?_
  rintro e w1 ⟨rfl, hb1⟩
  have HB1 := Aside0.mk (below_then (below_alloc (Below.refl w.heap.size w) (.cells #[.int .i64 id, .int .u64 lo, .int .u64 hi, .slice A ds.length c, .int .i64 gen, .slice A2 es.length c2] 46)) (by simp) hb1)
  have HX1 := Aside0.mk ((hb1.block _ (blk_lt (heap_alloc_new _ _))).trans (heap_alloc_new w (.cells #[.int .i64 id, .int .u64 lo, .int .u64 hi, .slice A ds.length c, .int .i64 gen, .slice A2 es.length c2] 46)))
  clear hb1 HG
  go_wp2_with fail
  refine (new_es ltD w w1 (by decide) HB1.out [(w.heap.size, #[.int .i64 id, .int .u64 lo, .int .u64 hi, .slice A ds.length c, .int .i64 gen, .slice A2 es.length c2], 46)] (fun t ht => by rcases List.mem_singleton.1 ht with rfl; exact ⟨HX1.out, show (46 : Nat) ≠ 5 by decide⟩)).mono ?_
  rintro e w2 ⟨b, rfl, he2⟩
  have HE := Aside0.mk he2
  clear he2 HB1 HX1
  obtain ⟨x0, x1, x2, x3, x4, x5⟩ : w2.cell? ⟨w.heap.size, 0, none⟩ = some (.int .i64 id) ∧ w2.cell? ⟨w.heap.size, 1, none⟩ = some (.int .u64 lo) ∧ w2.cell? ⟨w.heap.size, 2, none⟩ = some (.int .u64 hi) ∧ w2.cell? ⟨w.heap.size, 3, none⟩ = some (.slice A ds.length c) ∧ w2.cell? ⟨w.heap.size, 4, none⟩ = some (.int .i64 gen) ∧ w2.cell? ⟨w.heap.size, 5, none⟩ = some (.slice A2 es.length c2) := ⟨(blk_cell HE.out.one 0).trans rfl, (blk_cell HE.out.one 1).trans rfl, (blk_cell HE.out.one 2).trans rfl, (blk_cell HE.out.one 3).trans rfl, (blk_cell HE.out.one 4).trans rfl, (blk_cell HE.out.one 5).trans rfl⟩
  go_wp2_with fail
  refine (number_es w _ b _ (id) HE.out ⟨by omega, by omega⟩ (by first | omega | (simp only [List.length_append]; omega))).mono ?_
  rintro e w3 ⟨rfl, he⟩
  clear x0 x1 x2 x3 x4 x5 HE
  have HE := Aside0.mk he
  clear he
  obtain ⟨x0, x1, x2, x3, x4, x5⟩ : w3.cell? ⟨w.heap.size, 0, none⟩ = some (.int .i64 id) ∧ w3.cell? ⟨w.heap.size, 1, none⟩ = some (.int .u64 lo) ∧ w3.cell? ⟨w.heap.size, 2, none⟩ = some (.int .u64 hi) ∧ w3.cell? ⟨w.heap.size, 3, none⟩ = some (.slice A ds.length c) ∧ w3.cell? ⟨w.heap.size, 4, none⟩ = some (.int .i64 gen) ∧ w3.cell? ⟨w.heap.size, 5, none⟩ = some (.slice A2 es.length c2) := ⟨(blk_cell HE.out.one 0).trans rfl, (blk_cell HE.out.one 1).trans rfl, (blk_cell HE.out.one 2).trans rfl, (blk_cell HE.out.one 3).trans rfl, (blk_cell HE.out.one 4).trans rfl, (blk_cell HE.out.one 5).trans rfl⟩
  go_wp2_with fail
  refine (number_es w _ b _ (lo) HE.out ⟨by omega, by omega⟩ (by first | omega | (simp only [List.length_append]; omega))).mono ?_
  rintro e w4 ⟨rfl, he⟩
  clear x0 x1 x2 x3 x4 x5 HE
  have HE := Aside0.mk he
  clear he
  obtain ⟨x0, x1, x2, x3, x4, x5⟩ : w4.cell? ⟨w.heap.size, 0, none⟩ = some (.int .i64 id) ∧ w4.cell? ⟨w.heap.size, 1, none⟩ = some (.int .u64 lo) ∧ w4.cell? ⟨w.heap.size, 2, none⟩ = some (.int .u64 hi) ∧ w4.cell? ⟨w.heap.size, 3, none⟩ = some (.slice A ds.length c) ∧ w4.cell? ⟨w.heap.size, 4, none⟩ = some (.int .i64 gen) ∧ w4.cell? ⟨w.heap.size, 5, none⟩ = some (.slice A2 es.length c2) := ⟨(blk_cell HE.out.one 0).trans rfl, (blk_cell HE.out.one 1).trans rfl, (blk_cell HE.out.one 2).trans rfl, (blk_cell HE.out.one 3).trans rfl, (blk_cell HE.out.one 4).trans rfl, (blk_cell HE.out.one 5).trans rfl⟩
  go_wp2_with fail
  refine (number_es w _ b _ (hi - lo) HE.out ⟨by omega, by omega⟩ (by first | omega | (simp only [List.length_append]; omega))).mono ?_
  rintro e w5 ⟨rfl, he⟩
  clear x0 x1 x2 x3 x4 x5 HE
  have HE := Aside0.mk he
  clear he
  obtain ⟨x0, x1, x2, x3, x4, x5⟩ : w5.cell? ⟨w.heap.size, 0, none⟩ = some (.int .i64 id) ∧ w5.cell? ⟨w.heap.size, 1, none⟩ = some (.int .u64 lo) ∧ w5.cell? ⟨w.heap.size, 2, none⟩ = some (.int .u64 hi) ∧ w5.cell? ⟨w.heap.size, 3, none⟩ = some (.slice A ds.length c) ∧ w5.cell? ⟨w.heap.size, 4, none⟩ = some (.int .i64 gen) ∧ w5.cell? ⟨w.heap.size, 5, none⟩ = some (.slice A2 es.length c2) := ⟨(blk_cell HE.out.one 0).trans rfl, (blk_cell HE.out.one 1).trans rfl, (blk_cell HE.out.one 2).trans rfl, (blk_cell HE.out.one 3).trans rfl, (blk_cell HE.out.one 4).trans rfl, (blk_cell HE.out.one 5).trans rfl⟩
  go_wp2_with fail
  refine (number_es w _ b _ ((ds.length : Int)) HE.out ⟨by omega, by omega⟩ (by first | omega | (simp only [List.length_append]; omega))).mono ?_
  rintro e w6 ⟨rfl, he⟩
  clear x0 x1 x2 x3 x4 x5 HE
  have HE := Aside0.mk he
  clear he
  obtain ⟨x0, x1, x2, x3, x4, x5⟩ : w6.cell? ⟨w.heap.size, 0, none⟩ = some (.int .i64 id) ∧ w6.cell? ⟨w.heap.size, 1, none⟩ = some (.int .u64 lo) ∧ w6.cell? ⟨w.heap.size, 2, none⟩ = some (.int .u64 hi) ∧ w6.cell? ⟨w.heap.size, 3, none⟩ = some (.slice A ds.length c) ∧ w6.cell? ⟨w.heap.size, 4, none⟩ = some (.int .i64 gen) ∧ w6.cell? ⟨w.heap.size, 5, none⟩ = some (.slice A2 es.length c2) := ⟨(blk_cell HE.out.one 0).trans rfl, (blk_cell HE.out.one 1).trans rfl, (blk_cell HE.out.one 2).trans rfl, (blk_cell HE.out.one 3).trans rfl, (blk_cell HE.out.one 4).trans rfl, (blk_cell HE.out.one 5).trans rfl⟩
  obtain ⟨l0, hl0⟩ : ∃ l0, l0 = ltD.data.toList ++ ub id ++ ub lo ++ ub (hi - lo) ++ ub (ds.length : Int) := ⟨_, rfl⟩
  have hl1 : l0.length ≤ 60 := by rw [hl0]; simp only [List.length_append]; omega
  rw [← hl0] at HE HY
  have HL := Aside0.mk hl1
  clear hl0 hl1 u0 u1 u2 u3 u4
  go_wp2
  clear x0 x1 x2 x3 x4 x5
  go_loopw [5, 39] (fun vl vi wr => ∃ k : Nat, k ≤ ds.length ∧ vi = .int .i64 (k : Int) ∧ vl = .int .u64 (lst nxD lo (ds.take k)) ∧ Aside0 (Es w wr b (l0 ++ ens wrD nxD lo (ds.take k)) [(w.heap.size, #[.int .i64 id, .int .u64 lo, .int .u64 hi, .slice A ds.length c, .int .i64 gen, .slice A2 es.length c2], 46)])) (fun _ vi _ => ds.length - (intOf vi).toNat)
  case atStart => exact ⟨0, by omega, rfl, rfl, ⟨by rw [List.take_zero, show ens wrD nxD lo [] = [] from rfl, List.append_nil]; exact HE.out⟩⟩
  case round =>
    clear HE
    obtain ⟨k, hk, rfl, rfl, HE⟩ := hrel
    by_cases hlt : k < ds.length
    · have HCr := Kd.C_below HC.out HE.out.bld.below
      obtain ⟨ad, eA, y0, y1, y2⟩ := at_T58 HCr (k : Int) (by omega) (by omega)
      subst eA
      simp only [Int.toNat_natCast] at y0 y1 y2
      obtain ⟨hokt, hok, hnx⟩ := oks_take HO.out k hlt
      have hlen := ens_len (wr := wrD) (fun st x h => wrD_len h.2) _ _ hokt
      rw [List.length_take] at hlen
      have hget : rd_T58 ds (k : Int) = ds[k] := by unfold rd_T58; rw [Int.toNat_natCast, List.getD_eq_getElem?_getD, List.getElem?_eq_getElem hlt, Option.getD_some]
      have hstep : ens wrD nxD lo (ds.take (k + 1)) = ens wrD nxD lo (ds.take k) ++ wrD (lst nxD lo (ds.take k)) ds[k] := by rw [List.take_succ_eq_append_getElem hlt, ens_snoc]
      have hl9 : (l0 ++ ens wrD nxD lo (ds.take k)).length ≤ 60 + 710 * 65536 := by rw [List.length_append]; have := HL.out; omega
      rw [← hget] at hok hnx hstep
      have HN := Aside0.mk hnx
      generalize rd_T58 ds (k : Int) = x at y0 y1 y2 hok hstep HN
      have HP := Aside0.mk hstep
      generalize ens wrD nxD lo (ds.take k) = pre at HE hl9 HP
      generalize lst nxD lo (ds.take k) = st at hok HP ⊢
      rw [List.length_append] at hl9
      clear hnx hstep hlen hokt hget HCr
      obtain ⟨hst, o1, o2, o3, o4, o5⟩ := hok
      have vt := tb_len x.f1
      have HE := Aside0.mk (HE.out.add #[.int .u64 x.f0, .string x.f1, .string x.f2] 58 (by decide))
      --LOOP0
      go_wp2_with fail
      clear y0 y1 y2
      generalize wr.heap.size = vb at HE ⊢
      have uu := ub_len (x.f0 - st)
      refine (number_es w _ b _ (x.f0 - st) HE.out ⟨by omega, by omega⟩ (by first | omega | (simp only [List.length_append]; omega))).mono ?_
      rintro e v0 ⟨rfl, he⟩
      clear HE
      have HE := Aside0.mk he
      clear he
      generalize hub0 : ub (x.f0 - st) = b0 at HE uu
      have HU0 := Aside0.mk hub0
      clear hub0
      obtain ⟨y0, y1, y2⟩ : v0.cell? ⟨vb, 0, none⟩ = some (.int .u64 x.f0) ∧ v0.cell? ⟨vb, 1, none⟩ = some (.string x.f1) ∧ v0.cell? ⟨vb, 2, none⟩ = some (.string x.f2) := ⟨(blk_cell HE.out.one 0).trans rfl, (blk_cell HE.out.one 1).trans rfl, (blk_cell HE.out.one 2).trans rfl⟩
      --REGL0
      go_wp2_with fail
      refine (text_es w _ b _ (x.f1) HE.out (by omega) (by first | omega | (simp only [List.length_append]; omega))).mono ?_
      rintro e v1 ⟨rfl, he⟩
      clear y0 y1 y2
      clear HE
      have HE := Aside0.mk he
      clear he
      obtain ⟨y0, y1, y2⟩ : v1.cell? ⟨vb, 0, none⟩ = some (.int .u64 x.f0) ∧ v1.cell? ⟨vb, 1, none⟩ = some (.string x.f1) ∧ v1.cell? ⟨vb, 2, none⟩ = some (.string x.f2) := ⟨(blk_cell HE.out.one 0).trans rfl, (blk_cell HE.out.one 1).trans rfl, (blk_cell HE.out.one 2).trans rfl⟩
      --REGL1
      go_wp2_with fail
      refine (text_es w _ b _ (x.f2) HE.out (by omega) (by first | omega | (simp only [List.length_append]; omega))).mono ?_
      rintro e v2 ⟨rfl, he⟩
      clear y0 y1 y2
      clear HE
      have HE := Aside0.mk he
      clear he
      obtain ⟨y0, y1, y2⟩ : v2.cell? ⟨vb, 0, none⟩ = some (.int .u64 x.f0) ∧ v2.cell? ⟨vb, 1, none⟩ = some (.string x.f1) ∧ v2.cell? ⟨vb, 2, none⟩ = some (.string x.f2) := ⟨(blk_cell HE.out.one 0).trans rfl, (blk_cell HE.out.one 1).trans rfl, (blk_cell HE.out.one 2).trans rfl⟩
      go_wp2
      go_roundw
      case rel => exact ⟨k + 1, by omega, by go_num, by rw [HN.out]; rfl, ⟨by rw [HP.out, ← List.append_assoc]; unfold wrD; rw [HU0.out]; simp only [List.append_assoc]; have h := HE.out; simp only [List.append_assoc] at h; exact h.less (fun t ht => List.mem_cons_of_mem _ ht)⟩⟩
      case measure => simp [intOf]; omega
    · obtain rfl : k = ds.length := by omega
      rw [List.take_length] at HE ⊢
      have hlen := ens_len (wr := wrD) (fun st x h => wrD_len h.2) _ _ HO.out
      rw [← HY.out] at HE
      have hl8 : (ltD.data.toList ++ byD id lo hi ds).length ≤ 60 + 710 * 65536 := by rw [HY.out, List.length_append]; have := HL.out; omega
      have hl7 : ltD.data.toList ++ byD id lo hi ds ≠ [] := fun h => by have := congrArg List.length h; rw [List.length_append] at this; simp only [show ltD.data.toList.length = 8 from rfl, List.length_nil] at this; omega
      have HN7 := Aside0.mk hl7
      have HN8 : Aside0 ((ltD.data.toList ++ byD id lo hi ds).length ≤ 140737488355328) := ⟨by omega⟩
      clear hlen hl8 hl7
      go_wp2_with fail
      refine (sealed_any w _ b _ HE.out.bld HN7.out HN8.out HT.out).mono ?_
      rintro e w9 ⟨rfl, hb9⟩
      have HB9 := Aside0.mk hb9
      clear hb9
      go_wp2
      go_ret2
      exact ⟨rfl, HB9.out⟩
end Go.Proofs.YtejjidggnnhgjaaDoor.HImEd
/- What the statements of layer 12 call, each by one contract: twins, comparisons, the writers and readers of both sides. -/
set_option linter.unusedVariables false
set_option linter.unusedSimpArgs false
namespace Go.Proofs.YtejjidggnnhgjaaDoor.HImT
open Go.RowKit Go.Proofs.YtejjidggnnhgjaaDoor.PImg Go.Proofs.YtejjidggnnhgjaaDoor.HBase Go.Proofs.YtejjidggnnhgjaaDoor.HBlob Go.Proofs.YtejjidggnnhgjaaDoor.HSum Go.Proofs.YtejjidggnnhgjaaDoor.HCk Go.Proofs.YtejjidggnnhgjaaDoor.HImgW Go.Proofs.YtejjidggnnhgjaaDoor.HImgR Go.Proofs.YtejjidggnnhgjaaDoor.HImgO Go.Proofs.YtejjidggnnhgjaaDoor.HImP Go.Proofs.YtejjidggnnhgjaaDoor.HImD Go.Proofs.YtejjidggnnhgjaaDoor.HImE Go.Proofs.YtejjidggnnhgjaaDoor.HImF Go.Proofs.YtejjidggnnhgjaaDoor.HImK Go.Proofs.YtejjidggnnhgjaaDoor.HImKe Go.Proofs.YtejjidggnnhgjaaDoor.HImS Go.Proofs.YtejjidggnnhgjaaDoor.HImS2 Go.Proofs.YtejjidggnnhgjaaDoorW.PrintWords Go.Proofs.YtejjidggnnhgjaaDoorW.PrintLast Go.Proofs.YtejjidggnnhgjaaDoorW.PrintMore Go.Proofs.YtejjidggnnhgjaaDoor.HCore
/-! ### comparisons of what is the same -/
theorem sameD_l (ds : List SD) (hn : ds.length < 3518437208883) : ∀ (d i k : Nat), i + d = ds.length → d < k → stratalaw12_sameData.l0 k ds ds (i : Int) = some true := by
  intro d
  induction d with
  | zero =>
    intro i k hi hk
    obtain ⟨k, rfl⟩ : ∃ k', k = k' + 1 := ⟨k - 1, by omega⟩
    rw [stratalaw12_sameData.l0, if_neg (by omega)]
  | succ d ih =>
    intro i k hi hk
    obtain ⟨k, rfl⟩ : ∃ k', k = k' + 1 := ⟨k - 1, by omega⟩
    rw [stratalaw12_sameData.l0, if_pos (by omega), if_pos (by omega), if_pos (by omega), if_neg (by simp), wstep i (by omega)]
    exact ih (i + 1) k (by omega) (by omega)
theorem sameE_l (ds : List SE) (hn : ds.length < 4398046511104) : ∀ (d i k : Nat), i + d = ds.length → d < k → stratalaw12_sameGone.l0 k ds ds (i : Int) = some true := by
  intro d
  induction d with
  | zero =>
    intro i k hi hk
    obtain ⟨k, rfl⟩ : ∃ k', k = k' + 1 := ⟨k - 1, by omega⟩
    rw [stratalaw12_sameGone.l0, if_neg (by omega)]
  | succ d ih =>
    intro i k hi hk
    obtain ⟨k, rfl⟩ : ∃ k', k = k' + 1 := ⟨k - 1, by omega⟩
    rw [stratalaw12_sameGone.l0, if_pos (by omega), if_pos (by omega), if_pos (by omega), if_neg (by simp), wstep i (by omega)]
    exact ih (i + 1) k (by omega) (by omega)
theorem sameP_f (a b c g : Int) (ds : List SD) (es : List SE) (hn : ds.length < 3518437208883) (hm : es.length < 4398046511104) : stratalaw12_samePair.f (ds.length + es.length + 1) a b c ds g es a b c ds g es = some true := by
  have h1 : stratalaw12_sameData.f (ds.length + es.length + 1) ds ds = some true := by
    unfold stratalaw12_sameData.f
    rw [if_pos rfl]
    exact sameD_l ds hn ds.length 0 _ (by omega) (by omega)
  have h2 : stratalaw12_sameGone.f (ds.length + es.length + 1) es es = some true := by
    unfold stratalaw12_sameGone.f
    rw [if_pos rfl]
    exact sameE_l es hm es.length 0 _ (by omega) (by omega)
  unfold stratalaw12_samePair.f
  rw [if_pos rfl, if_pos rfl, if_pos rfl, if_pos rfl, h1, Option.bind_some, if_pos rfl, h2, Option.bind_some]
theorem num_any (a : Int) (w : World) : Calls Tryd.prog 10 #[.int .i64 a] w fun e w' => e = .returned (.int .i64 a) ∧ w = w' := by
  go_enter Tryd.func10, Tryd.ntmps10
  go_wp2
  go_ret
  exact ⟨rfl, rfl⟩
theorem same_pair (id lo hi gen : Int) (A : Option Addr) (n c : Nat) (ds : List SD) (A2 : Option Addr) (n2 c2 : Nat) (es : List SE) (B : Option Addr) (m d : Nat) (B2 : Option Addr) (m2 d2 : Nat) (w : World)
    (hC : Kd.C k58 w A n ds) (hc : n ≤ c) (hC2 : Kd.C k60 w A2 n2 es) (hc2 : n2 ≤ c2) (gC : Kd.C k58 w B m ds) (gc : m ≤ d) (gC2 : Kd.C k60 w B2 m2 es) (gc2 : m2 ≤ d2) (hn : ds.length < 3518437208883) (hm : es.length < 4398046511104) :
    Calls Tryd.prog 18 #[.agg #[.int .i64 id, .int .u64 lo, .int .u64 hi, .slice A n c, .int .i64 gen, .slice A2 n2 c2], .agg #[.int .i64 id, .int .u64 lo, .int .u64 hi, .slice B m d, .int .i64 gen, .slice B2 m2 d2]] w fun e w' => e = .returned (.bool true) ∧ Below w.heap.size w w' := by
  obtain rfl : n = ds.length := hC.1.symm
  obtain rfl : n2 = es.length := hC2.1.symm
  obtain rfl : m = ds.length := gC.1.symm
  obtain rfl : m2 = es.length := gC2.1.symm
  exact stratalaw12_samePair.calls _ id lo hi A c ds gen A2 c2 es id lo hi B d ds gen B2 d2 es true w hC hc hC2 hc2 gC gc gC2 gc2 (sameP_f id lo hi gen ds es hn hm)
/-! ### twins -/
theorem twin_any (id lo hi gen : Int) (A : Option Addr) (n c : Nat) (ds : List SD) (A2 : Option Addr) (n2 c2 : Nat) (es : List SE) (w : World) (hC : Kd.C k58 w A n ds) (hc : n ≤ c) (hC2 : Kd.C k60 w A2 n2 es) (hc2 : n2 ≤ c2) (hn : ds.length < 3518437208883) (hm : es.length < 4398046511104) :
    Calls Tryd.prog 15 #[.agg #[.int .i64 id, .int .u64 lo, .int .u64 hi, .slice A n c, .int .i64 gen, .slice A2 n2 c2]] w fun e w' => ∃ (B : Option Addr) (d : Nat) (B2 : Option Addr) (d2 : Nat), e = .returned (.agg #[.int .i64 id, .int .u64 lo, .int .u64 hi, .slice B n d, .int .i64 gen, .slice B2 n2 d2]) ∧ Kd.R k58 58 w' w.heap.size (fun _ => True) (.slice B n d) ds ∧ Kd.R k60 60 w' w.heap.size (fun _ => True) (.slice B2 n2 d2) es ∧ Below w.heap.size w w' := by
  obtain rfl : n = ds.length := hC.1.symm
  obtain rfl : n2 = es.length := hC2.1.symm
  refine (stratalaw12_twin.calls id lo hi A c ds gen A2 c2 es id lo hi ds gen es w hC hc hC2 hc2 ?_).mono ?_
  · unfold stratalaw12_twin.f
    simp only [Option.bind_some, List.length_nil, List.nil_append]
    rw [if_pos (by omega), if_pos (by omega)]
  · rintro e w' ⟨v3, v5, rfl, h3, h5, hb⟩
    obtain ⟨B, d, rfl⟩ := Kd.R_slice h3
    obtain ⟨B2, d2, rfl⟩ := Kd.R_slice h5
    exact ⟨B, d, B2, d2, rfl, h3, h5, hb⟩
/-! ### the writers -/
def outD (id lo hi : Int) (ds : List SD) : ByteArray × Int := if gdD id lo hi ds = true then (fileOf ltD (byD id lo hi ds), 0) else ((⟨#[]⟩ : ByteArray), 2)
section
variable (id lo hi gen : Int) (A : Option Addr) (n c : Nat) (ds : List SD) (A2 : Option Addr) (n2 c2 : Nat) (es : List SE) (w : World)
theorem encD_p (hC : Kd.C k58 w A n ds) (hc : n ≤ c) (hC2 : Kd.C k60 w A2 n2 es) (hc2 : n2 ≤ c2) (hT : Tab w) (h0 : 0 ≤ lo) (hn : ds.length < 3518437208883) :
    Calls Tryd.prog 23 #[.agg #[.int .i64 id, .int .u64 lo, .int .u64 hi, .slice A n c, .int .i64 gen, .slice A2 n2 c2]] w fun e w' => e = .returned (.tuple #[.string (outD id lo hi ds).1, .int .i64 (outD id lo hi ds).2]) ∧ Below w.heap.size w w' := by
  obtain rfl : n = ds.length := hC.1.symm
  obtain rfl : n2 = es.length := hC2.1.symm
  unfold outD
  have hg := goodD_f id lo hi gen ds es (by omega) (ds.length + 2) (Nat.le_refl _)
  by_cases h : gdD id lo hi ds = true
  · rw [if_pos h]
    rw [h] at hg
    exact HImEd.yes _ id lo hi gen A c ds A2 c2 es w hC hc hC2 hc2 hT hg h0 h
  · rw [if_neg h]
    rw [show gdD id lo hi ds = false by simpa using h] at hg
    exact HImEd.no _ id lo hi gen A c ds A2 c2 es w hC hc hC2 hc2 hg
theorem encD_d (hC : Kd.C k58 w A n ds) (hc : n ≤ c) (hC2 : Kd.C k60 w A2 n2 es) (hc2 : n2 ≤ c2) (h0 : 0 ≤ lo) (hn : ds.length < 3518437208883) :
    Calls Tryd.prog 24 #[.agg #[.int .i64 id, .int .u64 lo, .int .u64 hi, .slice A n c, .int .i64 gen, .slice A2 n2 c2]] w fun e w' => e = .returned (.tuple #[.string (outD id lo hi ds).1, .int .i64 (outD id lo hi ds).2]) ∧ Below w.heap.size w w' := by
  obtain rfl : n = ds.length := hC.1.symm
  obtain rfl : n2 = es.length := hC2.1.symm
  exact strataref12_EncodeData.calls _ id lo hi A c ds gen A2 c2 es (outD id lo hi ds).1 (outD id lo hi ds).2 w hC hc hC2 hc2 (encD_f id lo hi gen ds es h0 (by omega) _ (Nat.le_refl _))
end
/-! ### the readers -/
section
variable {b : ByteArray} {w : World}
theorem decD_p {id lo hi cd : Int} {ds : List SD} (hb : b.size ≤ 140737488355328) (hT : Tab w) (hv : HImDd.val b = (id, lo, hi, ds)) (hc : HImDd.code b = cd) :
    Calls Tryd.prog 25 #[.string b] w fun e w' => ∃ (A : Option Addr) (n c : Nat), e = .returned (.tuple #[.agg #[.int .i64 id, .int .u64 lo, .int .u64 hi, .slice A n c, .int .i64 0, .slice none 0 0], .int .i64 cd]) ∧ Kd.R k58 58 w' w.heap.size (fun _ => True) (.slice A n c) ds ∧ Below w.heap.size w w' := by
  refine (HImDd.dec_any (fun id lo hi l hl => ⟨_, goodD_f id lo hi 0 l [] (by omega) _ (Nat.le_refl _)⟩) b w hb hT).mono ?_
  rintro e w' ⟨u, rfl, hR, hB⟩
  obtain ⟨A, c, rfl⟩ := Kd.R_slice hR
  rw [hv] at hR ⊢
  rw [hc]
  exact ⟨A, _, c, rfl, hR, hB⟩
theorem decD_d {id lo hi cd : Int} {ds : List SD} (hb : b.size ≤ 1048576) (hv : HImDd.val b = (id, lo, hi, ds)) (hc : HImDd.code b = cd) :
    Calls Tryd.prog 26 #[.string b] w fun e w' => ∃ (A : Option Addr) (n c : Nat), e = .returned (.tuple #[.agg #[.int .i64 id, .int .u64 lo, .int .u64 hi, .slice A n c, .int .i64 0, .slice none 0 0], .int .i64 cd]) ∧ Kd.R k58 58 w' w.heap.size (fun _ => True) (.slice A n c) ds ∧ Below w.heap.size w w' := by
  refine (HImSd.dec_any b w hb).mono ?_
  rintro e w' ⟨u, rfl, hR, hB⟩
  obtain ⟨A, c, rfl⟩ := Kd.R_slice hR
  rw [hv] at hR ⊢
  rw [hc]
  exact ⟨A, _, c, rfl, hR, hB⟩
end
/-! ### lengths of what is read -/
theorem vD_len (b : ByteArray) : (HImDd.val b).2.2.2.length ≤ 65536 := by
  by_cases ho : opn b ltD = 0
  · cases hd : dcD (ins b) with
    | none => rw [(HImDd.none_val ho hd).1]; exact Nat.zero_le _
    | some x =>
      by_cases hx : x.2 = ((ins b).size : Int)
      · rw [(HImDd.some_val ho hd hx).1]
        obtain ⟨⟨id, lo, hi, ds⟩, q⟩ := x
        exact (gdD_parts (dcD_drop hd).1).1.2.2.2.2
      · rw [(HImDd.short_val ho hd hx).1]; exact Nat.zero_le _
  · rw [(HImDd.out_val ho).1]; exact Nat.zero_le _
theorem rC {X : Type} {d : Kd X} {t : TypeId} {W : World} {base n c : Nat} {ok : Nat → Prop} {A : Option Addr} {xs : List X} (h : Kd.R d t W base ok (.slice A n c) xs) : Kd.C d W A n xs := by
  obtain ⟨rfl, _, h⟩ := Kd.R_reads' h
  exact h
theorem rN {X : Type} {d : Kd X} {t : TypeId} {W : World} {base n c : Nat} {ok : Nat → Prop} {A : Option Addr} {xs : List X} (h : Kd.R d t W base ok (.slice A n c) xs) : n ≤ c := (Kd.R_reads' h).2.1
theorem R_two {X : Type} {d : Kd X} {t : TypeId} {W W' : World} {base : Nat} {v : Value} {xs : List X} {r1 : Option Nat} (h : Kd.R d t W base (fun _ => True) v xs) (ht : HImBk.Two W W' r1 none) (hr : ∀ k, r1 = some k → k < base) : Kd.R d t W' base (fun _ => True) v xs :=
  Kd.R_mono (Kd.R_step (Kd.R_bound h) (fun k hk hlt => ht.block k hlt (fun e => by have := hr k e.symm; have := hk.2.1; omega) (by simp))) (fun _ _ => trivial)
end Go.Proofs.YtejjidggnnhgjaaDoor.HImT
/- The kinds of the parameters of layer 12's statements, whole. -/
set_option linter.unusedVariables false
namespace Go.Proofs.YtejjidggnnhgjaaDoor.HKinds
open Go.RowKit Go.Proofs.YtejjidggnnhgjaaDoor.PImg Go.Proofs.YtejjidggnnhgjaaDoorW.PrintWords Go.Proofs.YtejjidggnnhgjaaDoorW.PrintLast
abbrev S58 := PImg.S58
abbrev S60 := PImg.S60
structure S46 where
  f0 : Int
  f1 : Int
  f2 : Int
  f3 : List S58
  f4 : Int
  f5 : List S60
def k46 : Kd S46 := Kd.iso (Kd.pair (Kd.int .i64) (Kd.pair (Kd.int .u64) (Kd.pair (Kd.int .u64) (Kd.pair (Kd.slice 58 PImg.k58) (Kd.pair (Kd.int .i64) (Kd.slice 60 PImg.k60)))))) (fun x : S46 => (x.f0, x.f1, x.f2, x.f3, x.f4, x.f5))
theorem pair_open {W : World} {x : S46} {cs : Array Value} (h : k46.K W x cs.toList) : ∃ (A : Option Addr) (c : Nat) (A2 : Option Addr) (c2 : Nat), cs = #[.int .i64 x.f0, .int .u64 x.f1, .int .u64 x.f2, .slice A x.f3.length c, .int .i64 x.f4, .slice A2 x.f5.length c2] ∧ x.f3.length ≤ c ∧ Kd.C PImg.k58 W A x.f3.length x.f3 ∧ x.f5.length ≤ c2 ∧ Kd.C PImg.k60 W A2 x.f5.length x.f5 := by
  obtain ⟨_, _, e, rfl, _, _, rfl, rfl, _, _, rfl, rfl, _, _, rfl, ⟨A, c, rfl, hc, hC⟩, _, _, rfl, rfl, ⟨A2, c2, rfl, hc2, hC2⟩⟩ := h
  refine ⟨A, c, A2, c2, ?_, hc, hC, hc2, hC2⟩
  apply Array.toList_inj.1
  rw [e]
  rfl
end Go.Proofs.YtejjidggnnhgjaaDoor.HKinds
/- ImageData of layer 12's statements, walked whole: all it compares is alike. -/
set_option linter.unusedVariables false
set_option linter.unusedSimpArgs false
namespace Go.Proofs.YtejjidggnnhgjaaDoor.HImLd
open Go.RowKit Go.Proofs.YtejjidggnnhgjaaDoor.PImg Go.Proofs.YtejjidggnnhgjaaDoor.HSum Go.Proofs.YtejjidggnnhgjaaDoor.HImP Go.Proofs.YtejjidggnnhgjaaDoor.HImD Go.Proofs.YtejjidggnnhgjaaDoor.HImE Go.Proofs.YtejjidggnnhgjaaDoor.HImBk Go.Proofs.YtejjidggnnhgjaaDoor.HImMk Go.Proofs.YtejjidggnnhgjaaDoor.HImT Go.Proofs.YtejjidggnnhgjaaDoorW.PrintWords Go.Proofs.YtejjidggnnhgjaaDoorW.PrintLast Go.Proofs.YtejjidggnnhgjaaDoorW.PrintMore Go.Proofs.YtejjidggnnhgjaaDoor.HCore
set_option maxRecDepth 100000 in
set_option maxHeartbeats 32000000 in
theorem law_any (id lo hi gen : Int) (A : Option Addr) (c : Nat) (ds : List SD) (A2 : Option Addr) (c2 : Nat) (es : List SE) (b : ByteArray) (w : World) (hC : Kd.C k58 w A ds.length ds) (hc : ds.length ≤ c) (hC2 : Kd.C k60 w A2 es.length es) (hc2 : es.length ≤ c2) (h0 : 0 ≤ lo) (hn : ds.length < 3518437208883) (hm : es.length < 4398046511104) (hs : ∀ x ∈ ds, x.f2.size ≤ 140737488351232) (hb : b.size ≤ 1048576) (hT : Tab w) :
    Calls Tryd.prog 5 #[.agg #[.int .i64 id, .int .u64 lo, .int .u64 hi, .slice A ds.length c, .int .i64 gen, .slice A2 es.length c2], .string b] w fun e w' => e = .returned (.bool true) ∧ Below w.heap.size w w' := by
  have HC := Aside0.mk hC
  have HC2 := Aside0.mk hC2
  have HSz := Aside0.mk hs
  have HTb := Aside0.mk hT
  have Hc := Aside0.mk hc
  have Hc2 := Aside0.mk hc2
  have Hb := Aside0.mk hb
  have HN1 : Aside0 (ds.length < 3518437208883) := ⟨hn⟩
  have HN2 : Aside0 (es.length < 4398046511104) := ⟨hm⟩
  clear hC hC2 hs hT hc hc2 hn hm hb
  obtain ⟨sD, HsD⟩ : ∃ s, Aside0 (outD id lo hi ds = s) := ⟨_, ⟨rfl⟩⟩
  obtain ⟨sv, sc⟩ := sD
  obtain ⟨ia, la, ha, xs, HV⟩ : ∃ ia la ha xs, Aside0 (HImDd.val b = (ia, la, ha, xs)) := ⟨_, _, _, _, ⟨rfl⟩⟩
  obtain ⟨cd, HCd⟩ : ∃ cd, Aside0 (HImDd.code b = cd) := ⟨_, ⟨rfl⟩⟩
  have HL6 : Aside0 (xs.length ≤ 65536) := ⟨by have := vD_len b; rw [HV.out] at this; exact this⟩
  go_enter Tryd.func5, Tryd.ntmps5
  go_wp2_with fail
  refine (twin_any id lo hi gen A _ c ds A2 _ c2 es _ (Kd.C_below HC.out (below_alloc (Below.refl _ _) _)) Hc.out (Kd.C_below HC2.out (below_alloc (Below.refl _ _) _)) Hc2.out HN1.out HN2.out).mono ?_
  rintro e w1 ⟨B1, d1, B2, d2, rfl, r1, r2, hb⟩
  have HP := Aside0.mk (blk_below (blk_new _ _) hb)
  have BL := Aside0.mk (below_step (below_alloc (Below.refl _ _) _) hb)
  have hsz : w.heap.size + 1 ≤ w1.heap.size := by have := hb.size; simpa using this
  have HS1 := Aside0.mk hsz
  have R1 : Aside0 (Kd.R k58 58 w1 (w.heap.size + 1) (fun _ => True) (.slice B1 ds.length d1) ds) := ⟨by simpa using r1⟩
  have R2 : Aside0 (Kd.R k60 60 w1 (w.heap.size + 1) (fun _ => True) (.slice B2 es.length d2) es) := ⟨by simpa using r2⟩
  clear r1 r2 hb
  go_wp2_with fail
  refine (encD_p id lo hi gen _ _ _ ds _ _ _ es _ (Kd.C_below (rC R1.out) (below_alloc (Below.refl _ _) _)) (rN R1.out) (Kd.C_below (rC R2.out) (below_alloc (Below.refl _ _) _)) (rN R2.out) (Tab.below HTb.out (below_step BL.out (below_alloc (Below.refl _ _) _))) h0 HN1.out).mono ?_
  rintro e w2 ⟨he, hb⟩
  have he2 : e = .returned (.tuple #[.string sv, .int .i64 sc]) := by rw [he, HsD.out]
  clear he
  subst he2
  have HG := Aside0.mk (blk_below (blk_new _ _) hb)
  replace HP := Aside0.mk (blk_below (blk_alloc HP.out _) hb)
  replace R1 := Aside0.mk (Kd.R_below (Kd.R_below R1.out (below_alloc (Below.refl _ _) _)) hb)
  replace R2 := Aside0.mk (Kd.R_below (Kd.R_below R2.out (below_alloc (Below.refl _ _) _)) hb)
  replace BL := Aside0.mk (below_step (below_step BL.out (below_alloc (Below.refl _ _) _)) hb)
  clear hb
  have p0 : _ = some (Value.int .i64 id) := (blk_cell HP.out 0).trans rfl
  have p1 : _ = some (Value.int .u64 lo) := (blk_cell HP.out 1).trans rfl
  have p2 : _ = some (Value.int .u64 hi) := (blk_cell HP.out 2).trans rfl
  have p3 : _ = some (Value.slice A ds.length c) := (blk_cell HP.out 3).trans rfl
  have p4 : _ = some (Value.int .i64 gen) := (blk_cell HP.out 4).trans rfl
  have p5 : _ = some (Value.slice A2 es.length c2) := (blk_cell HP.out 5).trans rfl
  go_wp2_with fail
  refine (encD_d id lo hi gen _ _ _ ds _ _ _ es _ (Kd.C_below HC.out BL.out) Hc.out (Kd.C_below HC2.out BL.out) Hc2.out h0 HN1.out).mono ?_
  rintro e w3 ⟨he, hb⟩
  have he2 : e = .returned (.tuple #[.string sv, .int .i64 sc]) := by rw [he, HsD.out]
  clear he
  subst he2
  replace HP := Aside0.mk (blk_below (HP.out) hb)
  replace HG := Aside0.mk (blk_below (HG.out) hb)
  replace R1 := Aside0.mk (Kd.R_below (R1.out) hb)
  replace R2 := Aside0.mk (Kd.R_below (R2.out) hb)
  replace BL := Aside0.mk (below_step (BL.out) hb)
  clear hb p0 p1 p2 p3 p4 p5
  have p0 : _ = some (Value.int .i64 id) := (blk_cell HP.out 0).trans rfl
  have p1 : _ = some (Value.int .u64 lo) := (blk_cell HP.out 1).trans rfl
  have p2 : _ = some (Value.int .u64 hi) := (blk_cell HP.out 2).trans rfl
  have p3 : _ = some (Value.slice A ds.length c) := (blk_cell HP.out 3).trans rfl
  have p4 : _ = some (Value.int .i64 gen) := (blk_cell HP.out 4).trans rfl
  have p5 : _ = some (Value.slice A2 es.length c2) := (blk_cell HP.out 5).trans rfl
  have g0 : _ = some (Value.int .i64 id) := (blk_cell HG.out 0).trans rfl
  have g1 : _ = some (Value.int .u64 lo) := (blk_cell HG.out 1).trans rfl
  have g2 : _ = some (Value.int .u64 hi) := (blk_cell HG.out 2).trans rfl
  have g3 : _ = some (Value.slice B1 ds.length d1) := (blk_cell HG.out 3).trans rfl
  have g4 : _ = some (Value.int .i64 gen) := (blk_cell HG.out 4).trans rfl
  have g5 : _ = some (Value.slice B2 es.length d2) := (blk_cell HG.out 5).trans rfl
  go_wp2_with (first | (go_at_call 10; refine (num_any _ _).mono ?_; rintro e w' ⟨rfl, rfl⟩) | fail)
  refine (same_pair id lo hi gen _ _ _ ds _ _ _ es _ _ _ _ _ _ _ (rC R1.out) (rN R1.out) (rC R2.out) (rN R2.out) (Kd.C_below HC.out BL.out) Hc.out (Kd.C_below HC2.out BL.out) Hc2.out HN1.out HN2.out).mono ?_
  rintro e w4 ⟨rfl, hb⟩
  replace HG := Aside0.mk (blk_below (HG.out) hb)
  replace R1 := Aside0.mk (Kd.R_below (R1.out) hb)
  replace R2 := Aside0.mk (Kd.R_below (R2.out) hb)
  replace BL := Aside0.mk (below_step (BL.out) hb)
  clear hb HP
  clear p0 p1 p2 p3 p4 p5 g0 g1 g2 g3 g4 g5
  have g0 : _ = some (Value.int .i64 id) := (blk_cell HG.out 0).trans rfl
  have g1 : _ = some (Value.int .u64 lo) := (blk_cell HG.out 1).trans rfl
  have g2 : _ = some (Value.int .u64 hi) := (blk_cell HG.out 2).trans rfl
  have g3 : _ = some (Value.slice B1 ds.length d1) := (blk_cell HG.out 3).trans rfl
  have g4 : _ = some (Value.int .i64 gen) := (blk_cell HG.out 4).trans rfl
  have g5 : _ = some (Value.slice B2 es.length d2) := (blk_cell HG.out 5).trans rfl
  go_wp2_with fail
  refine (back_any id lo hi gen _ _ _ ds _ _ _ es _ (w.heap.size + 1) R1.out R2.out (by have := blk_lt HG.out; have := HS1.out; omega) (by have := HN1.out; omega) (by have := HN2.out; omega) HSz.out).mono ?_
  rintro e w5 ⟨rfl, hk⟩
  obtain ⟨kb, kt, l1, l2, k1, k2, k3⟩ := hk
  replace HG := Aside0.mk ((kt.block _ (blk_lt HG.out) (Kd.R_ne R1.out HG.out (by decide)) (Kd.R_ne R2.out HG.out (by decide))).trans HG.out)
  replace BL := Aside0.mk (below_weaken BL.out (Nat.le_succ _) kb)
  have hl1 : l1.length < 3518437208883 := by have e1 := (Kd.R_reads' k1).1; have := HN1.out; omega
  have hl2 : l2.length < 4398046511104 := by have e1 := (Kd.R_reads' k2).1; have := HN2.out; omega
  have HL1 := Aside0.mk hl1
  have HL2 := Aside0.mk hl2
  replace R1 := Aside0.mk k1
  replace R2 := Aside0.mk k2
  clear kb kt k1 k2 k3 hl1 hl2
  clear g0 g1 g2 g3 g4 g5
  have g0 : _ = some (Value.int .i64 id) := (blk_cell HG.out 0).trans rfl
  have g1 : _ = some (Value.int .u64 lo) := (blk_cell HG.out 1).trans rfl
  have g2 : _ = some (Value.int .u64 hi) := (blk_cell HG.out 2).trans rfl
  have g3 : _ = some (Value.slice B1 ds.length d1) := (blk_cell HG.out 3).trans rfl
  have g4 : _ = some (Value.int .i64 gen) := (blk_cell HG.out 4).trans rfl
  have g5 : _ = some (Value.slice B2 es.length d2) := (blk_cell HG.out 5).trans rfl
  obtain ⟨sD2, HsD2⟩ : ∃ s, Aside0 (outD id lo hi l1 = s) := ⟨_, ⟨rfl⟩⟩
  obtain ⟨sv2, sc2⟩ := sD2
  go_wp2_with fail
  refine (encD_p id lo hi gen _ _ _ l1 _ _ _ l2 _ (rC R1.out) (rN R1.out) (rC R2.out) (rN R2.out) (Tab.below HTb.out BL.out) h0 HL1.out).mono ?_
  rintro e w6 ⟨he, hb⟩
  have he2 : e = .returned (.tuple #[.string sv2, .int .i64 sc2]) := by rw [he, HsD2.out]
  clear he
  subst he2
  replace HG := Aside0.mk (blk_below (HG.out) hb)
  replace R1 := Aside0.mk (Kd.R_below (R1.out) hb)
  replace R2 := Aside0.mk (Kd.R_below (R2.out) hb)
  replace BL := Aside0.mk (below_step (BL.out) hb)
  clear hb
  clear g0 g1 g2 g3 g4 g5
  have g0 : _ = some (Value.int .i64 id) := (blk_cell HG.out 0).trans rfl
  have g1 : _ = some (Value.int .u64 lo) := (blk_cell HG.out 1).trans rfl
  have g2 : _ = some (Value.int .u64 hi) := (blk_cell HG.out 2).trans rfl
  have g3 : _ = some (Value.slice B1 ds.length d1) := (blk_cell HG.out 3).trans rfl
  have g4 : _ = some (Value.int .i64 gen) := (blk_cell HG.out 4).trans rfl
  have g5 : _ = some (Value.slice B2 es.length d2) := (blk_cell HG.out 5).trans rfl
  go_wp2_with fail
  refine (twin_any id lo hi gen _ _ _ l1 _ _ _ l2 _ (rC R1.out) (rN R1.out) (rC R2.out) (rN R2.out) HL1.out HL2.out).mono ?_
  rintro e w7 ⟨D1, q1, D2, q2, rfl, r1, r2, hb⟩
  have T1 := Aside0.mk r1
  have T2 := Aside0.mk r2
  clear r1 r2
  replace BL := Aside0.mk (below_step BL.out hb)
  clear hb
  clear g0 g1 g2 g3 g4 g5
  clear HG R1 R2
  go_wp2_with fail
  refine (encD_d id lo hi gen _ _ _ l1 _ _ _ l2 _ (rC T1.out) (rN T1.out) (rC T2.out) (rN T2.out) h0 HL1.out).mono ?_
  rintro e w8 ⟨he, hb⟩
  have he2 : e = .returned (.tuple #[.string sv2, .int .i64 sc2]) := by rw [he, HsD2.out]
  clear he
  subst he2
  replace BL := Aside0.mk (below_step BL.out hb)
  clear hb T1 T2
  go_wp2_with (first | (go_at_call 10; refine (num_any _ _).mono ?_; rintro e w' ⟨rfl, rfl⟩) | fail)
  refine (decD_p (Nat.le_trans Hb.out (by decide)) (Tab.below HTb.out BL.out) HV.out HCd.out).mono ?_
  rintro e w9 ⟨Q, qn, qc, rfl, rq, hb⟩
  have RQ := Aside0.mk rq
  have HWb : Aside0 (w.heap.size ≤ w8.heap.size) := ⟨BL.out.size⟩
  have HQb : Aside0 (∀ k, (Value.slice Q qn qc).ownBlock = some k → k < w9.heap.size + 1) := ⟨fun k hk => Nat.lt_succ_of_lt (own_lt (Kd.R_own rq).choose_spec k hk)⟩
  replace BL := Aside0.mk (below_step BL.out hb)
  clear rq hb
  go_wp2_with fail
  refine (decD_p (Nat.le_trans Hb.out (by decide)) (Tab.below HTb.out (below_step BL.out (below_alloc (Below.refl _ _) _))) HV.out HCd.out).mono ?_
  rintro e w10 ⟨Q2, qn2, qc2, rfl, rq, hb⟩
  have RQ2 : Aside0 (Kd.R k58 58 w10 (w9.heap.size + 1) (fun _ => True) (.slice Q2 qn2 qc2) xs) := ⟨by simpa using rq⟩
  have HQ := Aside0.mk (blk_below (blk_new _ _) hb)
  have HQs : Aside0 (w9.heap.size + 1 ≤ w10.heap.size) := ⟨by have := hb.size; simpa using this⟩
  replace RQ := Aside0.mk (Kd.R_below (Kd.R_below RQ.out (below_alloc (Below.refl _ _) _)) hb)
  replace BL := Aside0.mk (below_step (below_step BL.out (below_alloc (Below.refl _ _) _)) hb)
  clear rq hb
  go_wp2_with fail
  refine (decD_d Hb.out HV.out HCd.out).mono ?_
  rintro e w11 ⟨Q3, qn3, qc3, rfl, rq, hb⟩
  have RQ3 : Aside0 (Kd.R k58 58 w11 (w9.heap.size + 1) (fun _ => True) (.slice Q3 qn3 qc3) xs) := ⟨Kd.R_lower rq (by have := HQs.out; simp; omega)⟩
  have HQ2 := Aside0.mk (blk_below (blk_new _ _) hb)
  replace HQ := Aside0.mk (blk_below (blk_alloc HQ.out _) hb)
  replace RQ := Aside0.mk (Kd.R_below (Kd.R_below RQ.out (below_alloc (Below.refl _ _) _)) hb)
  replace RQ2 := Aside0.mk (Kd.R_below (Kd.R_below RQ2.out (below_alloc (Below.refl _ _) _)) hb)
  replace BL := Aside0.mk (below_step (below_step BL.out (below_alloc (Below.refl _ _) _)) hb)
  clear rq hb
  have q0 : _ = some (Value.int .i64 ia) := (blk_cell (blk_alloc HQ.out (.cells #[.int .i64 ia, .int .u64 la, .int .u64 ha, .slice Q3 qn3 qc3, .int .i64 0, .slice none 0 0] 46)) 0).trans rfl
  have q1 : _ = some (Value.int .u64 la) := (blk_cell (blk_alloc HQ.out (.cells #[.int .i64 ia, .int .u64 la, .int .u64 ha, .slice Q3 qn3 qc3, .int .i64 0, .slice none 0 0] 46)) 1).trans rfl
  have q2 : _ = some (Value.int .u64 ha) := (blk_cell (blk_alloc HQ.out (.cells #[.int .i64 ia, .int .u64 la, .int .u64 ha, .slice Q3 qn3 qc3, .int .i64 0, .slice none 0 0] 46)) 2).trans rfl
  have q3 : _ = some (Value.slice Q qn qc) := (blk_cell (blk_alloc HQ.out (.cells #[.int .i64 ia, .int .u64 la, .int .u64 ha, .slice Q3 qn3 qc3, .int .i64 0, .slice none 0 0] 46)) 3).trans rfl
  have q4 : _ = some (Value.int .i64 0) := (blk_cell (blk_alloc HQ.out (.cells #[.int .i64 ia, .int .u64 la, .int .u64 ha, .slice Q3 qn3 qc3, .int .i64 0, .slice none 0 0] 46)) 4).trans rfl
  have q5 : _ = some (Value.slice none 0 0) := (blk_cell (blk_alloc HQ.out (.cells #[.int .i64 ia, .int .u64 la, .int .u64 ha, .slice Q3 qn3 qc3, .int .i64 0, .slice none 0 0] 46)) 5).trans rfl
  go_wp2_with (first | (go_at_call 10; refine (num_any _ _).mono ?_; rintro e w' ⟨rfl, rfl⟩) | fail)
  refine (same_pair ia la ha 0 _ _ _ xs _ _ _ ([] : List SE) _ _ _ _ _ _ _ (Kd.C_below (rC RQ.out) (below_alloc (Below.refl _ _) _)) (rN RQ.out) (rC (Kd.R_nil k60 60 _ 0 (fun _ => True))) (Nat.le_refl 0) (Kd.C_below (rC RQ3.out) (below_alloc (Below.refl _ _) _)) (rN RQ3.out) (rC (Kd.R_nil k60 60 _ 0 (fun _ => True))) (Nat.le_refl 0) (Nat.lt_of_le_of_lt HL6.out (by decide)) (by decide)).mono ?_
  rintro e w12 ⟨rfl, hb⟩
  clear q0 q1 q2 q3 q4 q5
  have HR := Aside0.mk (blk_below (blk_new _ _) hb)
  replace HQ := Aside0.mk (blk_below (blk_alloc HQ.out _) hb)
  replace HQ2 := Aside0.mk (blk_below (blk_alloc HQ2.out _) hb)
  replace RQ := Aside0.mk (Kd.R_below (Kd.R_below RQ.out (below_alloc (Below.refl _ _) _)) hb)
  replace RQ2 := Aside0.mk (Kd.R_below (Kd.R_below RQ2.out (below_alloc (Below.refl _ _) _)) hb)
  replace RQ3 := Aside0.mk (Kd.R_below (Kd.R_below RQ3.out (below_alloc (Below.refl _ _) _)) hb)
  replace BL := Aside0.mk (below_step (below_step BL.out (below_alloc (Below.refl _ _) _)) hb)
  clear hb
  have h0 : _ = some (Value.int .i64 ia) := (blk_cell HQ2.out 0).trans rfl
  have h1 : _ = some (Value.int .u64 la) := (blk_cell HQ2.out 1).trans rfl
  have h2 : _ = some (Value.int .u64 ha) := (blk_cell HQ2.out 2).trans rfl
  have h3 : _ = some (Value.slice Q2 qn2 qc2) := (blk_cell HQ2.out 3).trans rfl
  have h4 : _ = some (Value.int .i64 0) := (blk_cell HQ2.out 4).trans rfl
  have h5 : _ = some (Value.slice none 0 0) := (blk_cell HQ2.out 5).trans rfl
  have r0 : _ = some (Value.int .i64 ia) := (blk_cell HR.out 0).trans rfl
  have r1 : _ = some (Value.int .u64 la) := (blk_cell HR.out 1).trans rfl
  have r2 : _ = some (Value.int .u64 ha) := (blk_cell HR.out 2).trans rfl
  have r3 : _ = some (Value.slice Q3 qn3 qc3) := (blk_cell HR.out 3).trans rfl
  have r4 : _ = some (Value.int .i64 0) := (blk_cell HR.out 4).trans rfl
  have r5 : _ = some (Value.slice none 0 0) := (blk_cell HR.out 5).trans rfl
  go_wp2_with (first | (go_at_call 10; refine (num_any _ _).mono ?_; rintro e w' ⟨rfl, rfl⟩) | fail)
  refine (same_pair ia la ha 0 _ _ _ xs _ _ _ ([] : List SE) _ _ _ _ _ _ _ (rC RQ2.out) (rN RQ2.out) (rC (Kd.R_nil k60 60 _ 0 (fun _ => True))) (Nat.le_refl 0) (rC RQ3.out) (rN RQ3.out) (rC (Kd.R_nil k60 60 _ 0 (fun _ => True))) (Nat.le_refl 0) (Nat.lt_of_le_of_lt HL6.out (by decide)) (by decide)).mono ?_
  rintro e w13 ⟨rfl, hb⟩
  clear h0 h1 h2 h3 h4 h5 r0 r1 r2 r3 r4 r5
  replace HQ := Aside0.mk (blk_below (HQ.out) hb)
  replace HQ2 := Aside0.mk (blk_below (HQ2.out) hb)
  replace HR := Aside0.mk (blk_below (HR.out) hb)
  replace RQ := Aside0.mk (Kd.R_below (RQ.out) hb)
  replace RQ2 := Aside0.mk (Kd.R_below (RQ2.out) hb)
  replace RQ3 := Aside0.mk (Kd.R_below (RQ3.out) hb)
  replace BL := Aside0.mk (below_step (BL.out) hb)
  clear hb
  have q0 : _ = some (Value.int .i64 ia) := (blk_cell HQ.out 0).trans rfl
  have q1 : _ = some (Value.int .u64 la) := (blk_cell HQ.out 1).trans rfl
  have q2 : _ = some (Value.int .u64 ha) := (blk_cell HQ.out 2).trans rfl
  have q3 : _ = some (Value.slice Q qn qc) := (blk_cell HQ.out 3).trans rfl
  have q4 : _ = some (Value.int .i64 0) := (blk_cell HQ.out 4).trans rfl
  have q5 : _ = some (Value.slice none 0 0) := (blk_cell HQ.out 5).trans rfl
  go_wp2_with (first | (go_at_call 10; refine (num_any _ _).mono ?_; rintro e w' ⟨rfl, rfl⟩) | fail)
  refine (marked_any ia la ha 0 _ _ _ xs _ _ _ ([] : List SE) _ w.heap.size (Kd.R_lower RQ.out HWb.out) (Kd.R_nil k60 60 _ w.heap.size (fun _ => True)) BL.out.size (Nat.le_trans HL6.out (by decide)) (by decide)).mono ?_
  rintro e w14 ⟨rfl, ht, hb⟩
  replace HQ2 := Aside0.mk ((ht.block _ (blk_lt HQ2.out) (Kd.R_ne RQ.out HQ2.out (by decide)) (by simp [Value.ownBlock])).trans HQ2.out)
  replace HR := Aside0.mk ((ht.block _ (blk_lt HR.out) (Kd.R_ne RQ.out HR.out (by decide)) (by simp [Value.ownBlock])).trans HR.out)
  replace RQ2 := Aside0.mk (R_two RQ2.out ht HQb.out)
  replace RQ3 := Aside0.mk (R_two RQ3.out ht HQb.out)
  replace BL := Aside0.mk (below_weaken BL.out (Nat.le_refl _) hb)
  clear ht hb
  clear q0 q1 q2 q3 q4 q5
  have h0 : _ = some (Value.int .i64 ia) := (blk_cell HQ2.out 0).trans rfl
  have h1 : _ = some (Value.int .u64 la) := (blk_cell HQ2.out 1).trans rfl
  have h2 : _ = some (Value.int .u64 ha) := (blk_cell HQ2.out 2).trans rfl
  have h3 : _ = some (Value.slice Q2 qn2 qc2) := (blk_cell HQ2.out 3).trans rfl
  have h4 : _ = some (Value.int .i64 0) := (blk_cell HQ2.out 4).trans rfl
  have h5 : _ = some (Value.slice none 0 0) := (blk_cell HQ2.out 5).trans rfl
  have r0 : _ = some (Value.int .i64 ia) := (blk_cell HR.out 0).trans rfl
  have r1 : _ = some (Value.int .u64 la) := (blk_cell HR.out 1).trans rfl
  have r2 : _ = some (Value.int .u64 ha) := (blk_cell HR.out 2).trans rfl
  have r3 : _ = some (Value.slice Q3 qn3 qc3) := (blk_cell HR.out 3).trans rfl
  have r4 : _ = some (Value.int .i64 0) := (blk_cell HR.out 4).trans rfl
  have r5 : _ = some (Value.slice none 0 0) := (blk_cell HR.out 5).trans rfl
  go_wp2_with fail
  refine (same_pair ia la ha 0 _ _ _ xs _ _ _ ([] : List SE) _ _ _ _ _ _ _ (rC RQ2.out) (rN RQ2.out) (rC (Kd.R_nil k60 60 _ 0 (fun _ => True))) (Nat.le_refl 0) (rC RQ3.out) (rN RQ3.out) (rC (Kd.R_nil k60 60 _ 0 (fun _ => True))) (Nat.le_refl 0) (Nat.lt_of_le_of_lt HL6.out (by decide)) (by decide)).mono ?_
  rintro e w15 ⟨rfl, hb⟩
  replace BL := Aside0.mk (below_step BL.out hb)
  go_wp2
  go_ret
  exact ⟨rfl, BL.out⟩
theorem walk (x : HKinds.S46) (cs : Array Value) (b : ByteArray) (W : World) (hK : (HKinds.k46).K W x cs.toList) (q1 : (Lit.int .u64 x.f1).wf = true) (q3 : x.f3.length * 40 ≤ 140737488351232 ∧ ∀ y ∈ x.f3, (Lit.int .u64 y.f0).wf = true ∧ y.f1.size ≤ 140737488351232 ∧ y.f2.size ≤ 140737488351232) (q5 : x.f5.length * 32 ≤ 140737488351232 ∧ ∀ y ∈ x.f5, (Lit.int .u64 y.f0).wf = true ∧ (Lit.int .u64 y.f1).wf = true ∧ y.f2.size ≤ 140737488351232) (u1 : b.size ≤ 1048576) (hT : Tab W) :
    Calls Tryd.prog 5 #[.agg cs, .string b] W fun e w' => e = .returned (.bool true) ∧ Below W.heap.size W w' := by
  obtain ⟨A, c, A2, c2, rfl, hc, hC, hc2, hC2⟩ := HKinds.pair_open hK
  exact law_any x.f0 x.f1 x.f2 x.f4 A c x.f3 A2 c2 x.f5 b W hC hc hC2 hc2 (rng_u64 q1).1 (by have := q3.1; omega) (by have := q5.1; omega) (fun y hy => (q3.2 y hy).2.2) u1 hT
end Go.Proofs.YtejjidggnnhgjaaDoor.HImLd
/- What the row's reading of an argument gives, in the words of kinds: numbers, truths, texts, slices of whatever depth, structs of any number of fields, each with its bounds out of the row's own weights. -/
set_option linter.unusedVariables false
set_option linter.unusedSimpArgs false
namespace Go.Proofs.YtejjidggnnhgjaaDoor.HOpen
open Go.ChangeShapes Go.WideShapes Go.Deep Go.Proofs.YtejjidggnnhgjaaDoorW.PrintWords
/-- A reading of type t, within the reach, gives a datum of kind d that meets Q. -/
def Opens {α : Type} (P : Program) (t : TypeId) (d : Kd α) (Q : α → Prop) : Prop :=
  ∀ {H : Type} (enc : TypeId × Value → H) (w : World) (base : Nat) (spare : Nat → Bool) (held : Bool) (fuel : Nat) (cs : List Value) (D : DataW H) (ps : List MemPlace),
    DataW.trod enc P w base spare held fuel t cs = some (D, ps) → (∀ n ∈ D.weights P t, n ≤ reachBytes) → ∃ x, d.K w x cs ∧ Q x
theorem opens_int {P : Program} {t : TypeId} {k : IntKind} (h : P.underlying t = some (.int k)) : Opens P t (Kd.int k) (fun n => (Lit.int k n).wf = true) := by
  intro H enc w base spare held fuel cs D ps ht hw
  obtain ⟨n, rfl, hx, wf⟩ := DataW.trod_int h ht
  exact ⟨n, rfl, wf⟩
theorem opens_string {P : Program} {t : TypeId} (h : P.underlying t = some .string) : Opens P t Kd.string (fun s => s.size ≤ 140737488351232) := by
  intro H enc w base spare held fuel cs D ps ht hw
  obtain ⟨s, rfl, hx, _⟩ := DataW.trod_string h ht
  obtain ⟨rfl, _⟩ := Prod.mk.inj hx
  refine ⟨s, rfl, ?_⟩
  have := hw s.data.toList.length (by simp [DataW.weights])
  rw [Array.length_toList] at this
  exact this
theorem weights_all {H : Type} {P : Program} {e : TypeId} : ∀ {l : List (DataW H)} {d : DataW H}, d ∈ l → ∀ n ∈ d.weights P e, n ∈ DataW.weightsAll P e l
  | d0 :: l, d, hd, n, hn => by
    simp only [DataW.weightsAll, List.mem_append]
    rcases List.mem_cons.1 hd with rfl | hd
    · exact Or.inl hn
    · exact Or.inr (weights_all hd n hn)
theorem list_choose {α : Type} {p : Nat → α → Prop} : ∀ n, (∀ i, i < n → ∃ x, p i x) → ∃ xs : List α, xs.length = n ∧ ∀ i x, xs[i]? = some x → p i x
  | 0, _ => ⟨[], rfl, fun i x h => by simp at h⟩
  | n + 1, h => by
    obtain ⟨xs, hl, hx⟩ := list_choose n fun i hi => h i (by omega)
    obtain ⟨x, hp⟩ := h n (by omega)
    refine ⟨xs ++ [x], by rw [List.length_append, hl]; rfl, fun i y hy => ?_⟩
    by_cases hi : i < n
    · rw [List.getElem?_append_left (by omega)] at hy
      exact hx i y hy
    · have hlt := (List.getElem?_eq_some_iff.1 hy).1
      rw [List.length_append, hl, List.length_singleton] at hlt
      obtain rfl : i = n := by omega
      rw [List.getElem?_append_right (by omega), hl, Nat.sub_self] at hy
      simp at hy
      subst hy
      exact hp
theorem opens_slice {α : Type} {P : Program} {t e : TypeId} {e' B : Nat} {d : Kd α} {Q : α → Prop} (h : P.underlying t = some (.slice e)) (hd : Opens P e d Q) (hc : P.cellsOf e = d.sz) (hB : P.bytesOf e = B) :
    Opens P t (Kd.slice e' d) (fun xs => xs.length * B ≤ 140737488351232 ∧ ∀ x ∈ xs, Q x) := by
  intro H enc w base spare held fuel cs D ps ht hw
  rcases open_slice h ht with ⟨rfl, hx⟩ | ⟨a, len, cap, m, n, Dt, Pl, rfl, hb, hl, hm, hmm, hx, hel⟩
  · exact ⟨[], ⟨none, 0, rfl, Nat.le_refl _, Kd.C_nil d w⟩, by simp, by simp⟩
  obtain ⟨rfl, rfl⟩ := Prod.mk.inj hx
  have hlm : len ≤ m := by rw [hmm]; split <;> omega
  have hwi : ∀ i, i < len → ∀ q ∈ (Dt i).weights P e, q ≤ reachBytes := fun i hi q hq => hw q (by
    simp only [DataW.weights, h, List.mem_cons, List.mem_append]
    exact Or.inr (Or.inl (weights_all (d := Dt i) (List.mem_map.2 ⟨i, List.mem_range.2 hi, rfl⟩) q hq)))
  have hlen : len * B ≤ 140737488351232 := by
    have z := hw ((((List.range len).map Dt).length + ((List.range (m - len)).map fun j => Dt (len + j)).length) * P.bytesOf e) (by simp [DataW.weights, h])
    rw [hB, List.length_map, List.length_range] at z
    exact Nat.le_trans (Nat.mul_le_mul_right _ (by omega)) z
  obtain ⟨xs, hxl, hxs⟩ := list_choose (p := fun i x => Q x ∧ ∃ cs', w.cells? base (a.add (i * P.cellsOf e)) (P.cellsOf e) = some cs' ∧ d.K w x cs') len fun i hi => by
    obtain ⟨cs', h1, h2⟩ := hel i (by omega)
    obtain ⟨x, hk, hq⟩ := hd enc w base spare held n cs' (Dt i) (Pl i) h2 (hwi i hi)
    exact ⟨x, hq, cs', h1, hk⟩
  subst hxl
  refine ⟨xs, ⟨some a, cap, rfl, hl, rfl, ?_, fun _ => ⟨a, rfl, fun j p hj => ?_⟩⟩, hlen, fun x hx => ?_⟩
  · have : maxLen = 9223372036854775807 := rfl
    omega
  · obtain ⟨_, cs', h1, hk⟩ := hxs j p hj
    obtain ⟨_, hlen', hcell⟩ := World.cells?_some h1
    refine ⟨cs', d.K_len hk, hk, fun i u hu => ?_⟩
    have hi : i < P.cellsOf e := by rw [← hlen']; exact (List.getElem?_eq_some_iff.1 hu).1
    have := hcell i hi
    rw [Go.Deep.add_add, hu, hc] at this
    exact this
  · obtain ⟨i, hi⟩ := List.getElem?_of_mem hx
    exact (hxs i x hi).1
/-- The fields fs, whose cells begin at o. -/
def OpensFs {α : Type} (P : Program) (fs : List Field) (o : Nat) (d : Kd α) (Q : α → Prop) : Prop :=
  ∀ {H : Type} (enc : TypeId × Value → H) (w : World) (base : Nat) (spare : Nat → Bool) (held : Bool) (n : Nat) (cs : List Value) (xs : List (DataW H × List MemPlace)),
    xs.length = fs.length → (∀ (i : Nat) (f : Field), fs[i]? = some f → DataW.trod enc P w base spare held n f.type ((cs.drop f.offset).take (P.cellsOf f.type)) = xs[i]?) →
    (∀ q ∈ DataW.weightsEach P (fs.map (·.type)) (xs.map (·.1)), q ≤ reachBytes) → ∃ x, d.K w x ((cs.drop o).take d.sz) ∧ Q x
theorem opens_one {α : Type} {P : Program} {f : Field} {o : Nat} {d : Kd α} {Q : α → Prop} (hd : Opens P f.type d Q) (hc : P.cellsOf f.type = d.sz) (ho : f.offset = o) : OpensFs P [f] o d Q := by
  intro H enc w base spare held n cs xs hl hx hw
  match xs, hl with
  | [y], _ =>
    have h0 := hx 0 f rfl
    rw [hc, ho] at h0
    exact hd enc w base spare held n _ y.1 y.2 h0 (fun q hq => hw q (by simp [DataW.weightsEach, hq]))
theorem opens_cons {α β : Type} {P : Program} {f : Field} {fs : List Field} {o o' : Nat} {d : Kd α} {d' : Kd β} {Q : α → Prop} {Q' : β → Prop} (hd : Opens P f.type d Q) (hc : P.cellsOf f.type = d.sz) (ho : f.offset = o) (hr : OpensFs P fs o' d' Q') (ho' : o' = o + d.sz) :
    OpensFs P (f :: fs) o (Kd.pair d d') (fun x => Q x.1 ∧ Q' x.2) := by
  intro H enc w base spare held n cs xs hl hx hw
  match xs, hl with
  | y :: ys, hl =>
    have h0 := hx 0 f rfl
    rw [hc, ho] at h0
    obtain ⟨x, hk, hq⟩ := hd enc w base spare held n _ y.1 y.2 h0 (fun q hq => hw q (by simp [DataW.weightsEach, hq]))
    obtain ⟨x', hk', hq'⟩ := hr enc w base spare held n cs ys (by simpa using hl) (fun i g hg => by have := hx (i + 1) g hg; simpa using this) (fun q hq => hw q (by simp only [List.map_cons, DataW.weightsEach, List.mem_append]; exact Or.inr hq))
    refine ⟨(x, x'), ⟨_, _, ?_, hk, hk'⟩, hq, hq'⟩
    rw [ho', ← List.drop_drop]
    exact List.take_add
theorem opens_struct {α : Type} {P : Program} {t : TypeId} {fs : Array Field} {d : Kd α} {Q : α → Prop} (h : P.underlying t = some (.struct fs)) (hf : OpensFs P fs.toList 0 d Q) (hc : P.cellsOf t = d.sz) : Opens P t d Q := by
  intro H enc w base spare held fuel cs D ps ht hw
  obtain ⟨xs, n, _, hx, hl, hlen, hfs⟩ := DataW.trod_struct h ht
  obtain ⟨rfl, rfl⟩ := Prod.mk.inj hx
  obtain ⟨x, hk, hq⟩ := hf enc w base spare held n cs xs (by simpa using hlen) (fun i f hf => hfs i f (by simpa using hf)) (fun q hq => hw q (by simpa [DataW.weights, h] using hq))
  refine ⟨x, ?_, hq⟩
  rwa [List.drop_zero, List.take_of_length_le (by omega)] at hk
theorem opens_iso {α β : Type} {P : Program} {t : TypeId} {d : Kd α} {Q : α → Prop} (f : β → α) (g : α → β) (hfg : ∀ a, f (g a) = a) (h : Opens P t d Q) : Opens P t (Kd.iso d f) (fun y => Q (f y)) := by
  intro H enc w base spare held fuel cs D ps ht hw
  obtain ⟨x, hk, hq⟩ := h enc w base spare held fuel cs D ps ht hw
  refine ⟨g x, ?_, ?_⟩
  · show d.K w (f (g x)) cs
    rw [hfg]
    exact hk
  · show Q (f (g x))
    rw [hfg]
    exact hq
/-- An argument of a law. -/
theorem opens_arg {α : Type} {P : Program} {H : Type} {enc : TypeId × Value → H} {w : World} {base : Nat} {spare : Nat → Bool} {held : Bool} {t : TypeId} {v : Value} {D : DataW H} {ps : List MemPlace} {ts : List TypeId} {ds : List (DataW H)} {j : Nat} {d : Kd α} {Q : α → Prop}
    (hd : Opens P t d Q) (h : DataW.Trod enc P w base spare held t v D ps) (hsz : (DataW.weightsEach P ts ds).all (· ≤ reachBytes) = true) (ht : ts[j]? = some t) (hD : ds[j]? = some D) : ∃ x, d.K w x v.cells.toList ∧ Q x := by
  obtain ⟨fuel, hf⟩ := h
  exact hd enc w base spare held fuel _ D ps hf fun n hn => by
    have := List.all_eq_true.1 hsz _ (DataW.weights_mem_each ht hD n hn)
    simpa using this
end Go.Proofs.YtejjidggnnhgjaaDoor.HOpen
