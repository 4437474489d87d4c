/- EncodeCommit, by the program: a commit that may be is laid down in a builder of the call's own; nothing that was there is changed. -/
import Derived.Test.YtlgagjgfenmfeaaHRedL
import Derived.Test.YtlgagjgfenmfeaaHBuild
import Derived.Test.YtlgagjgfenmfeaaHUv
import Derived.Deep.LoopGhost
set_option linter.unusedVariables false
set_option linter.unusedSimpArgs false
namespace Go.Proofs.Ytlgagjgfenmfeaa.HEnc
open Go.RowKit Go.Proofs.Ytlgagjgfenmfeaa.PRed Go.Proofs.Ytlgagjgfenmfeaa.HRedL Go.Proofs.Ytlgagjgfenmfeaa.HBuild Go.Proofs.Ytlgagjgfenmfeaa.HBlob Go.Proofs.YtlgagjgfenmfeaaW.PrintWords Go.Proofs.YtlgagjgfenmfeaaW.PrintLast Go.Proofs.YtlgagjgfenmfeaaW.PrintMore Go.Proofs.Ytlgagjgfenmfeaa.HCore

/-- What stands while a commit is laid down: the builder in block b, the commit in the block ahead of it. -/
structure Es (w w' : World) (b : Nat) (l : List UInt8) (cs : Array Value) : Prop where
  bld : Bld w w' b l
  box : w'.heap[w.heap.size]? = some (.cells cs 25 (0, 0))
  ne : w.heap.size ≠ b
theorem Es.grown {w w' w'' : World} {b : Nat} {l : List UInt8} {cs : Array Value} (h : Es w w' b l cs) (hb : Below w'.heap.size w' w'') : Es w w'' b l cs :=
  ⟨h.bld.grown hb, (hb.block _ (blk_lt h.box)).trans h.box, h.ne⟩
theorem Es.wrote {w w' w'' : World} {b : Nat} {l l' : List UInt8} {cs : Array Value} (h : Es w w' b l cs) (hb : Bld w w'' b l') (hk : Lib.OthersKept 5 (some b) w' w'') : Es w w'' b l' cs :=
  ⟨hb, kept hk h.box h.ne (by decide), h.ne⟩
theorem Es.alloc {w w' : World} {b : Nat} {l : List UInt8} {cs : Array Value} (h : Es w w' b l cs) (o : Obj) : Es w (w'.alloc o) b l cs := h.grown (below_alloc (Below.refl _ _) _)
theorem Es.c {w w' : World} {b : Nat} {l : List UInt8} {x y : Value} (h : Es w w' b l #[x, y]) : w'.cell? ⟨w.heap.size, 0, none⟩ = some x ∧ w'.cell? ⟨w.heap.size, 1, none⟩ = some y := ⟨(blk_cell h.box 0).trans rfl, (blk_cell h.box 1).trans rfl⟩

set_option maxRecDepth 100000 in
set_option maxHeartbeats 1000000 in
theorem enc_no (st : Int) (A : Option Addr) (c : Nat) (ws : List S36) (w : World) (hC : Kd.C k36 w A ws.length ws) (hc : ws.length ≤ c) (hn : ws.length < 9223372036854775807) (hm : may st ws = false) :
    Calls Try.prog 9 #[.agg #[.int .u64 st, .slice A ws.length c]] w fun e w' => e = .returned (.tuple #[.string (⟨#[]⟩ : ByteArray), .int .i64 112]) ∧ Below w.heap.size w w' := by
  have HS := Aside0.mk ((sound_is st ws hn (2 * ws.length + 2) (by omega)).trans (congrArg some hm))
  have HC := Aside0.mk hC
  clear hC hm hn
  go_enter Try.func9, Try.ntmps9
  go_wp2_with fail
  refine (redo_sound.calls (2 * ws.length + 2) st A c ws false _ (Kd.C_alloc HC.out _) hc HS.out).mono ?_
  rintro e w1 ⟨rfl, hb1⟩
  have HB1 := Aside0.mk (below_then (below_alloc (Below.refl w.heap.size w) (.cells #[.int .u64 st, .slice A ws.length c] 25)) (by simp) hb1)
  clear hb1
  go_wp2
  go_ret2
  exact ⟨rfl, HB1.out⟩
set_option maxRecDepth 100000 in
set_option maxHeartbeats 4000000 in
theorem enc_yes (st : Int) (A : Option Addr) (c : Nat) (ws : List S36) (w : World) (hC : Kd.C k36 w A ws.length ws) (hc : ws.length ≤ c) (hm : may st ws = true) :
    Calls Try.prog 9 #[.agg #[.int .u64 st, .slice A ws.length c]] w fun e w' => e = .returned (.tuple #[.string ⟨(enc st ws).toArray⟩, .int .i64 0]) ∧ Below w.heap.size w w' := by
  have hm' := hm
  unfold may at hm'
  simp only [Bool.and_eq_true, decide_eq_true_eq] at hm'
  obtain ⟨⟨h1, h2, h3, h4⟩, h5⟩ := hm'
  have HS := Aside0.mk ((sound_is st ws (by omega) (2 * ws.length + 2) (by omega)).trans (congrArg some hm))
  have HC := Aside0.mk hC
  have HSm := Aside0.mk (ok_small ws _ h5)
  have HL := Aside0.mk (encl_len ws HSm.out)
  have HU1 : Aside0 (HUv.bits_Uvarint.f st = some (uvb st.toNat)) := ⟨by unfold HUv.bits_Uvarint.f; rw [if_pos ⟨by omega, by omega⟩]⟩
  have HU2 : Aside0 (HUv.bits_Uvarint.f (ws.length : Int) = some (uvb ws.length)) := ⟨by unfold HUv.bits_Uvarint.f; rw [if_pos ⟨by omega, by omega⟩, Int.toNat_natCast]⟩
  have B1 := uvb_size st.toNat
  have B2 := uvb_size ws.length
  have he : Aside0 (enc st ws = (uvb st.toNat).data.toList ++ (uvb ws.length).data.toList ++ encl ws) := ⟨rfl⟩
  generalize uvb st.toNat = u1 at HU1 B1 he
  generalize uvb ws.length = u2 at HU2 B2 he
  clear hC hm h5
  go_enter Try.func9, Try.ntmps9
  go_wp2_with fail
  refine (redo_sound.calls (2 * ws.length + 2) st A c ws true _ (Kd.C_alloc HC.out _) hc HS.out).mono ?_
  rintro e w1 ⟨rfl, hb1⟩
  have hz1 := hb1.size
  have HB1 := Aside0.mk (below_then (below_alloc (Below.refl w.heap.size w) (.cells #[.int .u64 st, .slice A ws.length c] 25)) (by simp) hb1)
  have HX1 := Aside0.mk ((hb1.block _ (blk_lt (heap_alloc_new _ _))).trans (heap_alloc_new w (.cells #[.int .u64 st, .slice A ws.length c] 25)))
  have HE1 : Aside0 (Es w (w1.alloc (.cells #[.pointer none, .slice none 0 0] 56)) w1.heap.size [] #[.int .u64 st, .slice A ws.length c]) := ⟨⟨Bld.start HB1.out, (heap_alloc_old _ _ (blk_lt HX1.out)).trans HX1.out, Nat.ne_of_lt (blk_lt HX1.out)⟩⟩
  clear hb1
  obtain ⟨k0, k1⟩ := HE1.out.c
  go_wp2_with fail
  refine (HUv.bits_Uvarint.calls _ _ _ HU1.out).mono ?_
  rintro e w2 ⟨rfl, hb2⟩
  have HE2 := Aside0.mk (HE1.out.grown hb2)
  clear hb2 k0 k1 HE1
  generalize w1.heap.size = b at HE2 ⊢
  go_wp2_with fail
  refine (string_any w _ b [] u1 HE2.out.bld (by simp; omega)).mono ?_
  rintro e w3 ⟨rfl, hb3, hk3⟩
  have HE3 := Aside0.mk (HE2.out.wrote hb3 hk3)
  clear hb3 hk3 HE2
  obtain ⟨k0, k1⟩ := HE3.out.c
  go_wp2_with fail
  refine (HUv.bits_Uvarint.calls _ _ _ HU2.out).mono ?_
  rintro e w4 ⟨rfl, hb4⟩
  have HE4 := Aside0.mk (HE3.out.grown hb4)
  clear hb4 k0 k1 HE3
  go_wp2_with fail
  refine (string_any w _ b _ u2 HE4.out.bld (by simp only [List.nil_append]; rw [size_list]; omega)).mono ?_
  rintro e w5 ⟨rfl, hb5, hk5⟩
  have HE5 := Aside0.mk (HE4.out.wrote hb5 hk5)
  clear hb5 hk5 HE4
  rw [List.nil_append] at HE5
  obtain ⟨k0, k1⟩ := HE5.out.c
  have hl0 : u1.data.toList.length + u2.data.toList.length ≤ 40 := by rw [size_list, size_list]; omega
  have hL0 : Aside0 ((u1.data.toList ++ u2.data.toList).length ≤ 40) := ⟨by rw [List.length_append]; exact hl0⟩
  generalize u1.data.toList ++ u2.data.toList = l0 at HE5 he hL0
  clear hl0
  go_wp2
  clear k0 k1
  have hl9 : ws.length ≤ 128 := h4
  clear h1 h2 h3 hz1 B1 B2 HU1 HU2
  go_loopw [23] (fun v23 wr => ∃ k : Nat, k ≤ ws.length ∧ v23 = .int .i64 (k : Int) ∧ Aside0 (Es w wr b (l0 ++ encl (ws.take k)) #[.int .u64 st, .slice A ws.length c])) (fun v23 _ => ws.length - (intOf v23).toNat)
  case atStart => exact ⟨0, by omega, rfl, ⟨by rw [List.take_zero, show encl [] = [] from rfl, List.append_nil]; exact HE5.out⟩⟩
  case round =>
    obtain ⟨k, hk, rfl, HE⟩ := hrel
    by_cases hlt : k < ws.length
    · have HCr := Kd.C_below HC.out HE.out.bld.below
      obtain ⟨ad, eA, x0, x1, x2⟩ := at_T36 HCr (k : Int) (by omega) (by omega)
      subst eA
      simp only [Int.toNat_natCast] at x0 x1 x2
      have hsm : Small (rd_T36 ws (k : Int)) := by rw [rd_get hlt]; exact HSm.out _ (List.getElem_mem hlt)
      have hstep : encl (ws.take (k + 1)) = encl (ws.take k) ++ wrb (rd_T36 ws (k : Int)) := by
        rw [List.take_succ_eq_append_getElem hlt, rd_get hlt]
        unfold encl
        rw [List.flatMap_append, List.flatMap_cons, List.flatMap_nil, List.append_nil]
      have hlen := encl_len (ws.take k) (fun y hy => HSm.out y (List.mem_of_mem_take hy))
      rw [List.length_take] at hlen
      have hlenk : (l0 ++ encl (ws.take k)).length ≤ 100000 := by
        have e0 : l0.length ≤ 40 := hL0.out
        rw [List.length_append]
        omega
      generalize encl (ws.take k) = pre at HE hstep hlenk
      generalize rd_T36 ws (k : Int) = x at x0 x1 x2 hsm hstep
      clear hlen HCr
      obtain ⟨c8, hc8, hc9⟩ : ∃ c : UInt8, x.f0 % 256 = (c.toNat : Int) ∧ c = UInt8.ofNat (x.f0 % 256).toNat := ⟨UInt8.ofNat (x.f0 % 256).toNat, by rw [UInt8.toNat_ofNat']; omega, rfl⟩
      have hwl := wrb_len x hsm
      have HB1 : Aside0 (redo_blob.f x.f1 = some (blobOf x.f1).1) := ⟨rfl⟩
      have HB2 : Aside0 (redo_blob.f x.f2 = some (blobOf x.f2).1) := ⟨rfl⟩
      have hwx : wrb x = c8 :: (blobL x.f1 ++ (if x.f0 = 1 then blobL x.f2 else [])) := by rw [hc9]; rfl
      have HW := Aside0.mk hwx
      have HP := Aside0.mk hstep
      have hS1 : Aside0 ((l0 ++ pre).length + 1 ≤ 140737488355328) := ⟨by omega⟩
      have z1 : (blobOf x.f1).1.size = (blobL x.f1).length := by unfold blobL; rw [size_list]
      have z2 : (blobOf x.f2).1.size = (blobL x.f2).length := by unfold blobL; rw [size_list]
      have g1 := blob_len x.f1
      have g2 := blob_len x.f2
      have hsm1 := hsm.1
      have hS2 : Aside0 ((l0 ++ pre ++ [c8]).length + (blobOf x.f1).1.size ≤ 140737488355328) := ⟨by rw [List.length_append, List.length_singleton]; omega⟩
      have hS3 : Aside0 (x.f0 = 1 → (l0 ++ pre ++ [c8] ++ (blobOf x.f1).1.data.toList).length + (blobOf x.f2).1.size ≤ 140737488355328) := ⟨fun h => by have := hsm.2 h; rw [List.length_append, List.length_append, List.length_singleton, size_list]; omega⟩
      have HVb : Aside0 (wr.heap.size ≠ b) := ⟨fun h => by have := HE.out.bld.lt.1; omega⟩
      have HV := Aside0.mk (heap_alloc_new wr (.cells #[.int .i64 x.f0, .string x.f1, .string x.f2] 36))
      have HE := Aside0.mk (HE.out.alloc (.cells #[.int .i64 x.f0, .string x.f1, .string x.f2] 36))
      clear hwx hstep hlenk hsm hwl hc9 z1 z2 g1 g2 hsm1
      go_wp2_with fail
      rw [hc8]
      refine (byte_any w _ b _ c8 HE.out.bld hS1.out).mono ?_
      rintro e w6 ⟨rfl, hb6, hk6⟩
      clear x0 x1 x2
      have HV := Aside0.mk (kept hk6 HV.out HVb.out (by decide))
      have HE := Aside0.mk (HE.out.wrote hb6 hk6)
      clear hb6 hk6
      have y0 : _ = some (Value.int .i64 x.f0) := (blk_cell HV.out 0).trans rfl
      have y1 : _ = some (Value.string x.f1) := (blk_cell HV.out 1).trans rfl
      have y2 : _ = some (Value.string x.f2) := (blk_cell HV.out 2).trans rfl
      go_wp2_with fail
      refine (redo_blob.calls x.f1 _ _ HB1.out).mono ?_
      rintro e w7 ⟨rfl, hb7⟩
      have HE := Aside0.mk (HE.out.grown hb7)
      have HV := Aside0.mk ((hb7.block _ (blk_lt HV.out)).trans HV.out)
      clear hb7 y0 y1 y2
      go_wp2_with fail
      refine (string_any w _ b _ (blobOf x.f1).1 HE.out.bld (by have := hS2.out; omega)).mono ?_
      rintro e w8 ⟨rfl, hb8, hk8⟩
      have HV := Aside0.mk (kept hk8 HV.out HVb.out (by decide))
      have HE := Aside0.mk (HE.out.wrote hb8 hk8)
      clear hb8 hk8
      have y0 : _ = some (Value.int .i64 x.f0) := (blk_cell HV.out 0).trans rfl
      have y1 : _ = some (Value.string x.f1) := (blk_cell HV.out 1).trans rfl
      have y2 : _ = some (Value.string x.f2) := (blk_cell HV.out 2).trans rfl
      by_cases hq : x.f0 = 1
      · have hq1 : (x.f0 == 1) = true := beq_iff_eq.2 hq
        have hS4 := Aside0.mk (hS3.out hq)
        have HF : Aside0 (l0 ++ pre ++ [c8] ++ (blobOf x.f1).1.data.toList ++ (blobOf x.f2).1.data.toList = l0 ++ encl (ws.take (k + 1))) := ⟨by rw [HP.out, HW.out, if_pos hq]; simp [blobL]⟩
        clear hq
        go_wp2_with fail
        refine (redo_blob.calls x.f2 _ _ HB2.out).mono ?_
        rintro e w9 ⟨rfl, hb9⟩
        have HE := Aside0.mk (HE.out.grown hb9)
        have HV := Aside0.mk ((hb9.block _ (blk_lt HV.out)).trans HV.out)
        clear hb9 y0 y1 y2
        go_wp2_with fail
        refine (string_any w _ b _ (blobOf x.f2).1 HE.out.bld (by have := hS4.out; omega)).mono ?_
        rintro e w10 ⟨rfl, hb10, hk10⟩
        have HV := Aside0.mk (kept hk10 HV.out HVb.out (by decide))
        have HE := Aside0.mk (HE.out.wrote hb10 hk10)
        clear hb10 hk10
        have y0 : _ = some (Value.int .i64 x.f0) := (blk_cell HV.out 0).trans rfl
        have y1 : _ = some (Value.string x.f1) := (blk_cell HV.out 1).trans rfl
        have y2 : _ = some (Value.string x.f2) := (blk_cell HV.out 2).trans rfl
        rw [HF.out] at HE
        clear y0 y1 y2
        go_wp2
        go_roundw
        case rel => exact ⟨k + 1, by omega, by go_num, HE⟩
        case measure => simp [intOf]; omega
      · have hq1 : (x.f0 == 1) = false := beq_eq_false_iff_ne.2 hq
        have HF : Aside0 (l0 ++ pre ++ [c8] ++ (blobOf x.f1).1.data.toList = l0 ++ encl (ws.take (k + 1))) := ⟨by rw [HP.out, HW.out, if_neg hq]; simp [blobL]⟩
        clear hq
        rw [HF.out] at HE
        go_wp2
        go_roundw
        case rel => exact ⟨k + 1, by omega, by go_num, HE⟩
        case measure => simp [intOf]; omega
    · have hk' : k = ws.length := by omega
      rw [hk', List.take_length, ← he.out] at HE
      clear hk'
      go_wp2_with fail
      refine (text_any w _ b _ HE.out.bld).mono ?_
      rintro e w6 ⟨rfl, hb6, hk6⟩
      have HB6 := Aside0.mk hb6.below
      clear hb6 hk6
      go_wp2
      go_ret2
      exact ⟨rfl, HB6.out⟩

/-- EncodeCommit, as a plain function. -/
def redo_EncodeCommit.f (st : Int) (ws : List S36) : Option (ByteArray × Int) := if ws.length < 9223372036854775807 then some (encF st ws) else none
theorem redo_EncodeCommit.calls (st : Int) (A : Option Addr) (c : Nat) (ws : List S36) (r1 : ByteArray) (r2 : Int) (w : World) (hC : Kd.C k36 w A ws.length ws) (hc : ws.length ≤ c) (h : redo_EncodeCommit.f st ws = some (r1, r2)) :
    Calls Try.prog 9 #[.agg #[.int .u64 st, .slice A ws.length c]] w fun e w' => e = .returned (.tuple #[.string r1, .int .i64 r2]) ∧ Below w.heap.size w w' := by
  unfold redo_EncodeCommit.f at h
  by_cases g : ws.length < 9223372036854775807
  · rw [if_pos g] at h
    unfold encF at h
    by_cases hm : may st ws = true
    · rw [if_pos hm] at h
      obtain ⟨rfl, rfl⟩ := Prod.mk.inj (Option.some.inj h)
      exact enc_yes st A c ws w hC hc hm
    · rw [if_neg hm] at h
      obtain ⟨rfl, rfl⟩ := Prod.mk.inj (Option.some.inj h)
      exact enc_no st A c ws w hC hc g (by simpa using hm)
  · rw [if_neg g] at h
    cases h
end Go.Proofs.Ytlgagjgfenmfeaa.HEnc
