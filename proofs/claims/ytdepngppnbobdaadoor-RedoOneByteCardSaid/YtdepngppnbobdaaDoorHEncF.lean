/- EncodeFrame, by the program: a frame that may be is laid down in a builder of the call's own; nothing that was there is changed (r2's door seat). -/
import Derived.Test.YtdepngppnbobdaaDoorHFr
import Derived.Test.YtdepngppnbobdaaDoorHBuild
import Derived.Deep.LoopGhost
set_option linter.unusedVariables false
set_option linter.unusedSimpArgs false
namespace Go.Proofs.YtdepngppnbobdaaDoor.HEncF
open Go.RowKit Go.Proofs.YtdepngppnbobdaaDoor.PFr Go.Proofs.YtdepngppnbobdaaDoor.HFr Go.Proofs.YtdepngppnbobdaaDoor.HSum Go.Proofs.YtdepngppnbobdaaDoor.HBase Go.Proofs.YtdepngppnbobdaaDoor.HBuild Go.Proofs.YtdepngppnbobdaaDoorW.PrintWords Go.Proofs.YtdepngppnbobdaaDoorW.PrintLast Go.Proofs.YtdepngppnbobdaaDoorW.PrintMore Go.Proofs.YtdepngppnbobdaaDoor.HCore

/-- What stands while a frame is laid down: the builder in block b, the frame in the block ahead of it. -/
structure Es (w w' : World) (b : Nat) (l : List UInt8) (cs : Array Value) : Prop where
  bld : Bld w w' b l
  box : w'.heap[w.heap.size]? = some (.cells cs 24 (0, 0))
  ne : w.heap.size ≠ b
theorem Es.grown {w w' w'' : World} {b : Nat} {l : List UInt8} {cs : Array Value} (h : Es w w' b l cs) (hb : Below w'.heap.size w' w'') : Es w w'' b l cs :=
  ⟨h.bld.grown hb, (hb.block _ (blk_lt h.box)).trans h.box, h.ne⟩
theorem Es.wrote {w w' w'' : World} {b : Nat} {l l' : List UInt8} {cs : Array Value} (h : Es w w' b l cs) (hb : Bld w w'' b l') (hk : Lib.OthersKept 5 (some b) w' w'') : Es w w'' b l' cs :=
  ⟨hb, kept hk h.box h.ne (by decide), h.ne⟩
theorem Es.c {w w' : World} {b : Nat} {l : List UInt8} {x y z : Value} (h : Es w w' b l #[x, y, z]) : w'.cell? ⟨w.heap.size, 0, none⟩ = some x ∧ w'.cell? ⟨w.heap.size, 1, none⟩ = some y ∧ w'.cell? ⟨w.heap.size, 2, none⟩ = some z := ⟨(blk_cell h.box 0).trans rfl, (blk_cell h.box 1).trans rfl, (blk_cell h.box 2).trans rfl⟩

set_option maxRecDepth 100000 in
set_option maxHeartbeats 1000000 in
theorem enc_no (kd lsn : Int) (body : ByteArray) (w : World) (hm : fitB kd lsn body.size = false) :
    Calls Tryd.prog 9 #[.agg #[.int .i64 kd, .int .u64 lsn, .string body]] w fun e w' => e = .returned (.tuple #[.string (⟨#[]⟩ : ByteArray), .int .i64 110]) ∧ Below w.heap.size w w' := by
  have HS := Aside0.mk ((fits_is kd lsn body.size 1 (by omega)).trans (congrArg some hm))
  clear hm
  go_enter Tryd.func9, Tryd.ntmps9
  go_wp2_with fail
  refine (redo_fits.calls 1 kd lsn body.size false _ HS.out).mono ?_
  rintro e w1 ⟨rfl, hd⟩
  have HB1 := Aside0.mk (below_then (below_alloc (Below.refl w.heap.size w) (.cells #[.int .i64 kd, .int .u64 lsn, .string body] 24)) (by simp) hd.below)
  clear hd
  go_wp2
  go_ret2
  exact ⟨rfl, HB1.out⟩
set_option maxRecDepth 100000 in
set_option maxHeartbeats 4000000 in
theorem enc_yes (kd lsn : Int) (body : ByteArray) (w : World) (hT : Tab w) (hm : fitB kd lsn body.size = true) :
    Calls Tryd.prog 9 #[.agg #[.int .i64 kd, .int .u64 lsn, .string body]] w fun e w' => e = .returned (.tuple #[.string ⟨(frl kd lsn body).toArray⟩, .int .i64 0]) ∧ Below w.heap.size w w' := by
  have HS := Aside0.mk ((fits_is kd lsn body.size 1 (by omega)).trans (congrArg some hm))
  obtain ⟨r1, r2, r3, r4, r5, r6⟩ := fit_rng _ _ _ hm
  have hz : body.size ≤ 131072 := by omega
  have F4 : ∀ v, Aside0 (bits_Fixed32.f v = some (fxb 4 v)) := fun v => ⟨rfl⟩
  have F8 : Aside0 (bits_Fixed64.f lsn = some (fxb 8 lsn)) := ⟨by unfold bits_Fixed64.f; rw [if_pos ⟨by omega, by omega⟩]⟩
  have C1 : Aside0 (bits_Checksum.f 2 [body] = some (ck body)) := ⟨chk body (by omega) 2 (by omega)⟩
  obtain ⟨c8, hc8, hc9⟩ : ∃ c : UInt8, kd % 256 = (c.toNat : Int) ∧ c = UInt8.ofNat (kd % 256).toNat := ⟨UInt8.ofNat (kd % 256).toNat, by rw [UInt8.toNat_ofNat']; omega, rfl⟩
  have HM : Aside0 ((body.size : Int) % 4294967296 = (body.size : Int)) := ⟨by omega⟩
  have H8 := Aside0.mk hc8
  have H9 := Aside0.mk hc9
  clear hm r1 r2 r3 r4 r5 r6 hc8 hc9
  go_enter Tryd.func9, Tryd.ntmps9
  go_wp2_with fail
  refine (redo_fits.calls 1 kd lsn body.size true _ HS.out).mono ?_
  rintro e w1 ⟨rfl, hd⟩
  have HB1 := Aside0.mk (below_then (below_alloc (Below.refl w.heap.size w) (.cells #[.int .i64 kd, .int .u64 lsn, .string body] 24)) (by simp) hd.below)
  have HX1 := Aside0.mk ((hd.below.block _ (blk_lt (heap_alloc_new _ _))).trans (heap_alloc_new w (.cells #[.int .i64 kd, .int .u64 lsn, .string body] 24)))
  have HE : Aside0 (Es w (w1.alloc (.cells #[.pointer none, .slice none 0 0] 78)) w1.heap.size [] #[.int .i64 kd, .int .u64 lsn, .string body]) := ⟨⟨Bld.start HB1.out, (heap_alloc_old _ _ (blk_lt HX1.out)).trans HX1.out, Nat.ne_of_lt (blk_lt HX1.out)⟩⟩
  clear hd HB1 HX1 HS
  go_wp2_with fail
  generalize w1.heap.size = b at HE ⊢
  refine (string_any w _ b _ ⟨#[83, 70]⟩ HE.out.bld (by show 0 + 2 ≤ 140737488355328; omega)).mono ?_
  rintro e w3 ⟨rfl, hb3, hk3⟩
  have HE := Aside0.mk (HE.out.wrote hb3 hk3)
  clear hb3 hk3
  replace HE : Aside0 (Es w w3 b [83, 70] #[.int .i64 kd, .int .u64 lsn, .string body]) := HE
  obtain ⟨k0, k1, k2⟩ := HE.out.c
  go_wp2_with fail
  skip
  rw [H8.out]
  refine (byte_any w _ b _ c8 HE.out.bld (by simp)).mono ?_
  rintro e w4 ⟨rfl, hb3, hk3⟩
  have HE := Aside0.mk (HE.out.wrote hb3 hk3)
  clear hb3 hk3 k0 k1 k2
  go_wp2_with fail
  refine (byte_any w _ b _ 0 HE.out.bld (by simp)).mono ?_
  rintro e w5 ⟨rfl, hb3, hk3⟩
  have HE := Aside0.mk (HE.out.wrote hb3 hk3)
  clear hb3 hk3
  obtain ⟨k0, k1, k2⟩ := HE.out.c
  go_wp2_with fail
  refine (bits_Fixed32.calls _ _ _ (F4 _).out).mono ?_
  rintro e w3 ⟨rfl, hb⟩
  have HE := Aside0.mk (HE.out.grown hb)
  clear hb
  clear k0 k1 k2
  go_wp2_with fail
  refine (string_any w _ b _ (fxb 4 (body.size : Int)) HE.out.bld (by simp only [List.length_append, List.length_cons, List.length_nil, size_list, fxb_len]; omega)).mono ?_
  rintro e w3 ⟨rfl, hb3, hk3⟩
  have HE := Aside0.mk (HE.out.wrote hb3 hk3)
  clear hb3 hk3
  obtain ⟨k0, k1, k2⟩ := HE.out.c
  go_wp2_with fail
  refine (bits_Fixed64.calls _ _ _ F8.out).mono ?_
  rintro e w3 ⟨rfl, hb⟩
  have HE := Aside0.mk (HE.out.grown hb)
  clear hb
  clear k0 k1 k2
  go_wp2_with fail
  refine (string_any w _ b _ (fxb 8 lsn) HE.out.bld (by simp only [List.length_append, List.length_cons, List.length_nil, size_list, fxb_len]; omega)).mono ?_
  rintro e w3 ⟨rfl, hb3, hk3⟩
  have HE := Aside0.mk (HE.out.wrote hb3 hk3)
  clear hb3 hk3
  obtain ⟨k0, k1, k2⟩ := HE.out.c
  --SUM1
  go_wp2_with (first | ((with_reducible refine gate_dst (N := 32) rfl ?_); refine Kd.R_lit Kd.string _ 9 ?hg (N := 32) ?hd (xs := ([body] : List ByteArray)) (inner := [.string body]) (ok := fun _ => True) (okp := fun _ => True) ?hr ?hp (fun _ hk => hk) trivial (Below.refl _ _) (Nat.le_refl _) (by simp) ?_; (case hd => rfl); (case hg => rfl); (case hr => first | (go_simp; done) | (go_simp; rfl)); (case hp => exact (Reps.one (show Kd.M Kd.string _ _ _ body [.string body] from rfl) (Reps.none _ _))); intro v107 w31 ho4 hb31 hg_ hnew_; clear hg_ hnew_; obtain ⟨Ao5, co5, eo5⟩ := Kd.R_slice ho4; subst eo5; have HR := Aside0.mk ho4; have HE31 := Aside0.mk (HE.out.grown hb31); clear ho4 hb31))
  have hcall := bits_Checksum.calls 2 Ao5 co5 [body] (ck body) w31 (Kd.R_reads' HR.out).2.2 (Kd.R_reads' HR.out).2.1 (C1).out (hT.below HE31.out.bld.below)
  refine hcall.mono ?_
  rintro e w3 ⟨rfl, hd⟩
  have HE := Aside0.mk (HE31.out.grown hd.below)
  clear hd HE31 HR hcall
  clear k0 k1 k2
  go_wp2_with fail
  refine (bits_Fixed32.calls _ _ _ (F4 _).out).mono ?_
  rintro e w3 ⟨rfl, hb⟩
  have HE := Aside0.mk (HE.out.grown hb)
  clear hb
  go_wp2_with fail
  refine (string_any w _ b _ (fxb 4 (ck body)) HE.out.bld (by simp only [List.length_append, List.length_cons, List.length_nil, size_list, fxb_len]; omega)).mono ?_
  rintro e w3 ⟨rfl, hb3, hk3⟩
  have HE := Aside0.mk (HE.out.wrote hb3 hk3)
  clear hb3 hk3
  have HE : Aside0 (Es w w3 b (hdl kd lsn body) #[.int .i64 kd, .int .u64 lsn, .string body]) := by rw [H9.out] at HE; unfold hdl; rw [HM.out]; exact HE
  have hdn := hdl_len kd lsn body
  obtain ⟨hh, Ehh⟩ : ∃ l, hdl kd lsn body = l := ⟨_, rfl⟩
  rw [Ehh] at HE hdn
  have EH := Aside0.mk Ehh
  clear Ehh
  go_wp2_with fail
  refine (text_any w _ b _ HE.out.bld).mono ?_
  rintro e w3 ⟨rfl, hb3, hk3⟩
  have HE := Aside0.mk (HE.out.wrote hb3 hk3)
  clear hb3 hk3
  have C2 : Aside0 (bits_Checksum.f 2 [(⟨hh.toArray⟩ : ByteArray)] = some (ck ⟨hh.toArray⟩)) := ⟨chk _ (by rw [← size_list]; simp; omega) 2 (by omega)⟩
  go_wp2_with (first | ((with_reducible refine gate_dst (N := 37) rfl ?_); refine Kd.R_lit Kd.string _ 9 ?hg (N := 37) ?hd (xs := ([(⟨hh.toArray⟩ : ByteArray)] : List ByteArray)) (inner := [.string (⟨hh.toArray⟩ : ByteArray)]) (ok := fun _ => True) (okp := fun _ => True) ?hr ?hp (fun _ hk => hk) trivial (Below.refl _ _) (Nat.le_refl _) (by simp) ?_; (case hd => rfl); (case hg => rfl); (case hr => first | (go_simp; done) | (go_simp; rfl)); (case hp => exact (Reps.one (show Kd.M Kd.string _ _ _ (⟨hh.toArray⟩ : ByteArray) [.string (⟨hh.toArray⟩ : ByteArray)] from rfl) (Reps.none _ _))); intro v107 w31 ho4 hb31 hg_ hnew_; clear hg_ hnew_; obtain ⟨Ao5, co5, eo5⟩ := Kd.R_slice ho4; subst eo5; have HR := Aside0.mk ho4; have HE31 := Aside0.mk (HE.out.grown hb31); clear ho4 hb31))
  have hcall := bits_Checksum.calls 2 Ao5 co5 [(⟨hh.toArray⟩ : ByteArray)] (ck (⟨hh.toArray⟩ : ByteArray)) w31 (Kd.R_reads' HR.out).2.2 (Kd.R_reads' HR.out).2.1 (C2).out (hT.below HE31.out.bld.below)
  refine hcall.mono ?_
  rintro e w3 ⟨rfl, hd⟩
  have HE := Aside0.mk (HE31.out.grown hd.below)
  clear hd HE31 HR hcall
  go_wp2_with fail
  refine (bits_Fixed32.calls _ _ _ (F4 _).out).mono ?_
  rintro e w3 ⟨rfl, hb⟩
  have HE := Aside0.mk (HE.out.grown hb)
  clear hb
  go_wp2_with fail
  refine (string_any w _ b _ (fxb 4 (ck ⟨hh.toArray⟩)) HE.out.bld (by simp only [List.length_append, List.length_cons, List.length_nil, size_list, fxb_len]; omega)).mono ?_
  rintro e w3 ⟨rfl, hb3, hk3⟩
  have HE := Aside0.mk (HE.out.wrote hb3 hk3)
  clear hb3 hk3
  obtain ⟨k0, k1, k2⟩ := HE.out.c
  go_wp2_with fail
  refine (string_any w _ b _ body HE.out.bld (by simp only [List.length_append, List.length_cons, List.length_nil, size_list, fxb_len]; omega)).mono ?_
  rintro e w3 ⟨rfl, hb3, hk3⟩
  have HE := Aside0.mk (HE.out.wrote hb3 hk3)
  clear hb3 hk3
  clear k0 k1 k2
  go_wp2_with fail
  refine (text_any w _ b _ HE.out.bld).mono ?_
  rintro e w3 ⟨rfl, hb3, hk3⟩
  have HB := Aside0.mk hb3.below
  clear hb3 hk3
  go_wp2
  go_ret2
  refine ⟨?_, HB.out⟩
  unfold frl
  rw [EH.out, List.append_assoc]
  rfl

/-- EncodeFrame, as a plain function. -/
def redo_EncodeFrame.f (kd lsn : Int) (body : ByteArray) : Option (ByteArray × Int) := some (frF kd lsn body)
theorem redo_EncodeFrame.calls (kd lsn : Int) (body : ByteArray) (r1 : ByteArray) (r2 : Int) (w : World) (h : redo_EncodeFrame.f kd lsn body = some (r1, r2)) (hT : Tab w) :
    Calls Tryd.prog 9 #[.agg #[.int .i64 kd, .int .u64 lsn, .string body]] w fun e w' => e = .returned (.tuple #[.string r1, .int .i64 r2]) ∧ Below w.heap.size w w' := by
  unfold redo_EncodeFrame.f frF at h
  by_cases hm : fitB kd lsn body.size = true
  · rw [if_pos hm] at h
    obtain ⟨rfl, rfl⟩ := Prod.mk.inj (Option.some.inj h)
    exact enc_yes kd lsn body w hT hm
  · rw [if_neg hm] at h
    obtain ⟨rfl, rfl⟩ := Prod.mk.inj (Option.some.inj h)
    exact enc_no kd lsn body w (by simpa using hm)
end Go.Proofs.YtdepngppnbobdaaDoor.HEncF
