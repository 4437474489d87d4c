/- Texts of this seat laid together, what the statement needs of them: HImEd, HImEe, HImEm, HImT, HImFl, HImFp, HImKd, HImTl, HOpen. -/
import Derived.Test.YtejjidggnnhgjaaDoorZT4
import Derived.SizedLaws
import Derived.ChangeSlices
import Derived.Deep.Slices
/- EncodeData of layer 12, by the program. -/
set_option linter.unusedVariables false
set_option linter.unusedSimpArgs false
namespace Go.Proofs.YtejjidggnnhgjaaDoor.HImEd
open Go.RowKit Go.Proofs.YtejjidggnnhgjaaDoor.PImg Go.Proofs.YtejjidggnnhgjaaDoor.HBase Go.Proofs.YtejjidggnnhgjaaDoor.HBlob Go.Proofs.YtejjidggnnhgjaaDoor.HSum Go.Proofs.YtejjidggnnhgjaaDoor.HCk Go.Proofs.YtejjidggnnhgjaaDoor.HBuildW Go.Proofs.YtejjidggnnhgjaaDoor.HImgW Go.Proofs.YtejjidggnnhgjaaDoor.HImP Go.Proofs.YtejjidggnnhgjaaDoor.HImD Go.Proofs.YtejjidggnnhgjaaDoor.HImE Go.Proofs.YtejjidggnnhgjaaDoorW.PrintWords Go.Proofs.YtejjidggnnhgjaaDoorW.PrintLast Go.Proofs.YtejjidggnnhgjaaDoorW.PrintMore Go.Proofs.YtejjidggnnhgjaaDoor.HCore
set_option maxRecDepth 100000 in
set_option maxHeartbeats 1000000 in
theorem no (k : Nat) (id lo hi gen : Int) (A : Option Addr) (c : Nat) (ds : List SD) (A2 : Option Addr) (c2 : Nat) (es : List SE) (w : World) (hC : Kd.C k58 w A ds.length ds) (hc : ds.length ≤ c) (hC2 : Kd.C k60 w A2 es.length es) (hc2 : es.length ≤ c2) (hg : image_goodData.f k id lo hi ds gen es = some false) :
    Calls Tryd.prog 23 #[.agg #[.int .i64 id, .int .u64 lo, .int .u64 hi, .slice A ds.length c, .int .i64 gen, .slice A2 es.length c2]] w fun e w' => e = .returned (.tuple #[.string (⟨#[]⟩ : ByteArray), .int .i64 2]) ∧ Below w.heap.size w w' := by
  have HG := Aside0.mk hg
  have HC := Aside0.mk hC
  have HC2 := Aside0.mk hC2
  clear hC hC2 hg
  go_enter Tryd.func23, Tryd.ntmps23
  go_wp2_with fail
  refine (image_goodData.calls k id lo hi A c ds gen A2 c2 es false _ (Kd.C_alloc HC.out _) hc (Kd.C_alloc HC2.out _) hc2 HG.out).mono ?_
  rintro e w1 ⟨rfl, hb1⟩
  have HB1 := Aside0.mk (below_then (below_alloc (Below.refl w.heap.size w) (.cells #[.int .i64 id, .int .u64 lo, .int .u64 hi, .slice A ds.length c, .int .i64 gen, .slice A2 es.length c2] 46)) (by simp) hb1)
  clear hb1
  go_wp2
  go_ret2
  exact ⟨rfl, HB1.out⟩
set_option maxRecDepth 100000 in
set_option maxHeartbeats 8000000 in
theorem yes (k : Nat) (id lo hi gen : Int) (A : Option Addr) (c : Nat) (ds : List SD) (A2 : Option Addr) (c2 : Nat) (es : List SE) (w : World) (hC : Kd.C k58 w A ds.length ds) (hc : ds.length ≤ c) (hC2 : Kd.C k60 w A2 es.length es) (hc2 : es.length ≤ c2) (hT : Tab w) (hg : image_goodData.f k id lo hi ds gen es = some true) (h0 : 0 ≤ lo) (hgd : gdD id lo hi ds = true) :
    Calls Tryd.prog 23 #[.agg #[.int .i64 id, .int .u64 lo, .int .u64 hi, .slice A ds.length c, .int .i64 gen, .slice A2 es.length c2]] w fun e w' => e = .returned (.tuple #[.string (fileOf ltD (byD id lo hi ds)), .int .i64 0]) ∧ Below w.heap.size w w' := by
  obtain ⟨⟨g1, g2, g3, g4, g5⟩, g6⟩ := gdD_parts hgd
  have HG := Aside0.mk hg
  have HC := Aside0.mk hC
  have HC2 := Aside0.mk hC2
  have HT := Aside0.mk hT
  have HO := Aside0.mk (okD_nonneg ds lo h0 g6)
  have HY : Aside0 (ltD.data.toList ++ byD id lo hi ds = (ltD.data.toList ++ ub id ++ ub lo ++ ub (hi - lo) ++ ub (ds.length : Int)) ++ ens wrD nxD lo ds) := ⟨by unfold byD; simp only [List.append_assoc]⟩
  have u0 : ltD.data.toList.length = 8 := rfl
  have u1 := ub_len (id)
  have u2 := ub_len (lo)
  have u3 := ub_len (hi - lo)
  have u4 := ub_len ((ds.length : Int))
  clear hC hT hgd g6 hC2 hg
  go_enter Tryd.func23, Tryd.ntmps23
  go_wp2_with fail
  refine (image_goodData.calls k id lo hi A c ds gen A2 c2 es true _ (Kd.C_alloc HC.out _) hc (Kd.C_alloc HC2.out _) hc2 HG.out).mono ?_
  rintro e w1 ⟨rfl, hb1⟩
  have HB1 := Aside0.mk (below_then (below_alloc (Below.refl w.heap.size w) (.cells #[.int .i64 id, .int .u64 lo, .int .u64 hi, .slice A ds.length c, .int .i64 gen, .slice A2 es.length c2] 46)) (by simp) hb1)
  have HX1 := Aside0.mk ((hb1.block _ (blk_lt (heap_alloc_new _ _))).trans (heap_alloc_new w (.cells #[.int .i64 id, .int .u64 lo, .int .u64 hi, .slice A ds.length c, .int .i64 gen, .slice A2 es.length c2] 46)))
  clear hb1 HG
  go_wp2_with fail
  refine (new_es ltD w w1 (by decide) HB1.out [(w.heap.size, #[.int .i64 id, .int .u64 lo, .int .u64 hi, .slice A ds.length c, .int .i64 gen, .slice A2 es.length c2], 46)] (fun t ht => by rcases List.mem_singleton.1 ht with rfl; exact ⟨HX1.out, show (46 : Nat) ≠ 5 by decide⟩)).mono ?_
  rintro e w2 ⟨b, rfl, he2⟩
  have HE := Aside0.mk he2
  clear he2 HB1 HX1
  obtain ⟨x0, x1, x2, x3, x4, x5⟩ : w2.cell? ⟨w.heap.size, 0, none⟩ = some (.int .i64 id) ∧ w2.cell? ⟨w.heap.size, 1, none⟩ = some (.int .u64 lo) ∧ w2.cell? ⟨w.heap.size, 2, none⟩ = some (.int .u64 hi) ∧ w2.cell? ⟨w.heap.size, 3, none⟩ = some (.slice A ds.length c) ∧ w2.cell? ⟨w.heap.size, 4, none⟩ = some (.int .i64 gen) ∧ w2.cell? ⟨w.heap.size, 5, none⟩ = some (.slice A2 es.length c2) := ⟨(blk_cell HE.out.one 0).trans rfl, (blk_cell HE.out.one 1).trans rfl, (blk_cell HE.out.one 2).trans rfl, (blk_cell HE.out.one 3).trans rfl, (blk_cell HE.out.one 4).trans rfl, (blk_cell HE.out.one 5).trans rfl⟩
  go_wp2_with fail
  refine (number_es w _ b _ (id) HE.out ⟨by omega, by omega⟩ (by first | omega | (simp only [List.length_append]; omega))).mono ?_
  rintro e w3 ⟨rfl, he⟩
  clear x0 x1 x2 x3 x4 x5 HE
  have HE := Aside0.mk he
  clear he
  obtain ⟨x0, x1, x2, x3, x4, x5⟩ : w3.cell? ⟨w.heap.size, 0, none⟩ = some (.int .i64 id) ∧ w3.cell? ⟨w.heap.size, 1, none⟩ = some (.int .u64 lo) ∧ w3.cell? ⟨w.heap.size, 2, none⟩ = some (.int .u64 hi) ∧ w3.cell? ⟨w.heap.size, 3, none⟩ = some (.slice A ds.length c) ∧ w3.cell? ⟨w.heap.size, 4, none⟩ = some (.int .i64 gen) ∧ w3.cell? ⟨w.heap.size, 5, none⟩ = some (.slice A2 es.length c2) := ⟨(blk_cell HE.out.one 0).trans rfl, (blk_cell HE.out.one 1).trans rfl, (blk_cell HE.out.one 2).trans rfl, (blk_cell HE.out.one 3).trans rfl, (blk_cell HE.out.one 4).trans rfl, (blk_cell HE.out.one 5).trans rfl⟩
  go_wp2_with fail
  refine (number_es w _ b _ (lo) HE.out ⟨by omega, by omega⟩ (by first | omega | (simp only [List.length_append]; omega))).mono ?_
  rintro e w4 ⟨rfl, he⟩
  clear x0 x1 x2 x3 x4 x5 HE
  have HE := Aside0.mk he
  clear he
  obtain ⟨x0, x1, x2, x3, x4, x5⟩ : w4.cell? ⟨w.heap.size, 0, none⟩ = some (.int .i64 id) ∧ w4.cell? ⟨w.heap.size, 1, none⟩ = some (.int .u64 lo) ∧ w4.cell? ⟨w.heap.size, 2, none⟩ = some (.int .u64 hi) ∧ w4.cell? ⟨w.heap.size, 3, none⟩ = some (.slice A ds.length c) ∧ w4.cell? ⟨w.heap.size, 4, none⟩ = some (.int .i64 gen) ∧ w4.cell? ⟨w.heap.size, 5, none⟩ = some (.slice A2 es.length c2) := ⟨(blk_cell HE.out.one 0).trans rfl, (blk_cell HE.out.one 1).trans rfl, (blk_cell HE.out.one 2).trans rfl, (blk_cell HE.out.one 3).trans rfl, (blk_cell HE.out.one 4).trans rfl, (blk_cell HE.out.one 5).trans rfl⟩
  go_wp2_with fail
  refine (number_es w _ b _ (hi - lo) HE.out ⟨by omega, by omega⟩ (by first | omega | (simp only [List.length_append]; omega))).mono ?_
  rintro e w5 ⟨rfl, he⟩
  clear x0 x1 x2 x3 x4 x5 HE
  have HE := Aside0.mk he
  clear he
  obtain ⟨x0, x1, x2, x3, x4, x5⟩ : w5.cell? ⟨w.heap.size, 0, none⟩ = some (.int .i64 id) ∧ w5.cell? ⟨w.heap.size, 1, none⟩ = some (.int .u64 lo) ∧ w5.cell? ⟨w.heap.size, 2, none⟩ = some (.int .u64 hi) ∧ w5.cell? ⟨w.heap.size, 3, none⟩ = some (.slice A ds.length c) ∧ w5.cell? ⟨w.heap.size, 4, none⟩ = some (.int .i64 gen) ∧ w5.cell? ⟨w.heap.size, 5, none⟩ = some (.slice A2 es.length c2) := ⟨(blk_cell HE.out.one 0).trans rfl, (blk_cell HE.out.one 1).trans rfl, (blk_cell HE.out.one 2).trans rfl, (blk_cell HE.out.one 3).trans rfl, (blk_cell HE.out.one 4).trans rfl, (blk_cell HE.out.one 5).trans rfl⟩
  go_wp2_with fail
  refine (number_es w _ b _ ((ds.length : Int)) HE.out ⟨by omega, by omega⟩ (by first | omega | (simp only [List.length_append]; omega))).mono ?_
  rintro e w6 ⟨rfl, he⟩
  clear x0 x1 x2 x3 x4 x5 HE
  have HE := Aside0.mk he
  clear he
  obtain ⟨x0, x1, x2, x3, x4, x5⟩ : w6.cell? ⟨w.heap.size, 0, none⟩ = some (.int .i64 id) ∧ w6.cell? ⟨w.heap.size, 1, none⟩ = some (.int .u64 lo) ∧ w6.cell? ⟨w.heap.size, 2, none⟩ = some (.int .u64 hi) ∧ w6.cell? ⟨w.heap.size, 3, none⟩ = some (.slice A ds.length c) ∧ w6.cell? ⟨w.heap.size, 4, none⟩ = some (.int .i64 gen) ∧ w6.cell? ⟨w.heap.size, 5, none⟩ = some (.slice A2 es.length c2) := ⟨(blk_cell HE.out.one 0).trans rfl, (blk_cell HE.out.one 1).trans rfl, (blk_cell HE.out.one 2).trans rfl, (blk_cell HE.out.one 3).trans rfl, (blk_cell HE.out.one 4).trans rfl, (blk_cell HE.out.one 5).trans rfl⟩
  obtain ⟨l0, hl0⟩ : ∃ l0, l0 = ltD.data.toList ++ ub id ++ ub lo ++ ub (hi - lo) ++ ub (ds.length : Int) := ⟨_, rfl⟩
  have hl1 : l0.length ≤ 60 := by rw [hl0]; simp only [List.length_append]; omega
  rw [← hl0] at HE HY
  have HL := Aside0.mk hl1
  clear hl0 hl1 u0 u1 u2 u3 u4
  go_wp2
  clear x0 x1 x2 x3 x4 x5
  go_loopw [5, 39] (fun vl vi wr => ∃ k : Nat, k ≤ ds.length ∧ vi = .int .i64 (k : Int) ∧ vl = .int .u64 (lst nxD lo (ds.take k)) ∧ Aside0 (Es w wr b (l0 ++ ens wrD nxD lo (ds.take k)) [(w.heap.size, #[.int .i64 id, .int .u64 lo, .int .u64 hi, .slice A ds.length c, .int .i64 gen, .slice A2 es.length c2], 46)])) (fun _ vi _ => ds.length - (intOf vi).toNat)
  case atStart => exact ⟨0, by omega, rfl, rfl, ⟨by rw [List.take_zero, show ens wrD nxD lo [] = [] from rfl, List.append_nil]; exact HE.out⟩⟩
  case round =>
    clear HE
    obtain ⟨k, hk, rfl, rfl, HE⟩ := hrel
    by_cases hlt : k < ds.length
    · have HCr := Kd.C_below HC.out HE.out.bld.below
      obtain ⟨ad, eA, y0, y1, y2⟩ := at_T58 HCr (k : Int) (by omega) (by omega)
      subst eA
      simp only [Int.toNat_natCast] at y0 y1 y2
      obtain ⟨hokt, hok, hnx⟩ := oks_take HO.out k hlt
      have hlen := ens_len (wr := wrD) (fun st x h => wrD_len h.2) _ _ hokt
      rw [List.length_take] at hlen
      have hget : rd_T58 ds (k : Int) = ds[k] := by unfold rd_T58; rw [Int.toNat_natCast, List.getD_eq_getElem?_getD, List.getElem?_eq_getElem hlt, Option.getD_some]
      have hstep : ens wrD nxD lo (ds.take (k + 1)) = ens wrD nxD lo (ds.take k) ++ wrD (lst nxD lo (ds.take k)) ds[k] := by rw [List.take_succ_eq_append_getElem hlt, ens_snoc]
      have hl9 : (l0 ++ ens wrD nxD lo (ds.take k)).length ≤ 60 + 710 * 65536 := by rw [List.length_append]; have := HL.out; omega
      rw [← hget] at hok hnx hstep
      have HN := Aside0.mk hnx
      generalize rd_T58 ds (k : Int) = x at y0 y1 y2 hok hstep HN
      have HP := Aside0.mk hstep
      generalize ens wrD nxD lo (ds.take k) = pre at HE hl9 HP
      generalize lst nxD lo (ds.take k) = st at hok HP ⊢
      rw [List.length_append] at hl9
      clear hnx hstep hlen hokt hget HCr
      obtain ⟨hst, o1, o2, o3, o4, o5⟩ := hok
      have vt := tb_len x.f1
      have HE := Aside0.mk (HE.out.add #[.int .u64 x.f0, .string x.f1, .string x.f2] 58 (by decide))
      --LOOP0
      go_wp2_with fail
      clear y0 y1 y2
      generalize wr.heap.size = vb at HE ⊢
      have uu := ub_len (x.f0 - st)
      refine (number_es w _ b _ (x.f0 - st) HE.out ⟨by omega, by omega⟩ (by first | omega | (simp only [List.length_append]; omega))).mono ?_
      rintro e v0 ⟨rfl, he⟩
      clear HE
      have HE := Aside0.mk he
      clear he
      generalize hub0 : ub (x.f0 - st) = b0 at HE uu
      have HU0 := Aside0.mk hub0
      clear hub0
      obtain ⟨y0, y1, y2⟩ : v0.cell? ⟨vb, 0, none⟩ = some (.int .u64 x.f0) ∧ v0.cell? ⟨vb, 1, none⟩ = some (.string x.f1) ∧ v0.cell? ⟨vb, 2, none⟩ = some (.string x.f2) := ⟨(blk_cell HE.out.one 0).trans rfl, (blk_cell HE.out.one 1).trans rfl, (blk_cell HE.out.one 2).trans rfl⟩
      --REGL0
      go_wp2_with fail
      refine (text_es w _ b _ (x.f1) HE.out (by omega) (by first | omega | (simp only [List.length_append]; omega))).mono ?_
      rintro e v1 ⟨rfl, he⟩
      clear y0 y1 y2
      clear HE
      have HE := Aside0.mk he
      clear he
      obtain ⟨y0, y1, y2⟩ : v1.cell? ⟨vb, 0, none⟩ = some (.int .u64 x.f0) ∧ v1.cell? ⟨vb, 1, none⟩ = some (.string x.f1) ∧ v1.cell? ⟨vb, 2, none⟩ = some (.string x.f2) := ⟨(blk_cell HE.out.one 0).trans rfl, (blk_cell HE.out.one 1).trans rfl, (blk_cell HE.out.one 2).trans rfl⟩
      --REGL1
      go_wp2_with fail
      refine (text_es w _ b _ (x.f2) HE.out (by omega) (by first | omega | (simp only [List.length_append]; omega))).mono ?_
      rintro e v2 ⟨rfl, he⟩
      clear y0 y1 y2
      clear HE
      have HE := Aside0.mk he
      clear he
      obtain ⟨y0, y1, y2⟩ : v2.cell? ⟨vb, 0, none⟩ = some (.int .u64 x.f0) ∧ v2.cell? ⟨vb, 1, none⟩ = some (.string x.f1) ∧ v2.cell? ⟨vb, 2, none⟩ = some (.string x.f2) := ⟨(blk_cell HE.out.one 0).trans rfl, (blk_cell HE.out.one 1).trans rfl, (blk_cell HE.out.one 2).trans rfl⟩
      go_wp2
      go_roundw
      case rel => exact ⟨k + 1, by omega, by go_num, by rw [HN.out]; rfl, ⟨by rw [HP.out, ← List.append_assoc]; unfold wrD; rw [HU0.out]; simp only [List.append_assoc]; have h := HE.out; simp only [List.append_assoc] at h; exact h.less (fun t ht => List.mem_cons_of_mem _ ht)⟩⟩
      case measure => simp [intOf]; omega
    · obtain rfl : k = ds.length := by omega
      rw [List.take_length] at HE ⊢
      have hlen := ens_len (wr := wrD) (fun st x h => wrD_len h.2) _ _ HO.out
      rw [← HY.out] at HE
      have hl8 : (ltD.data.toList ++ byD id lo hi ds).length ≤ 60 + 710 * 65536 := by rw [HY.out, List.length_append]; have := HL.out; omega
      have hl7 : ltD.data.toList ++ byD id lo hi ds ≠ [] := fun h => by have := congrArg List.length h; rw [List.length_append] at this; simp only [show ltD.data.toList.length = 8 from rfl, List.length_nil] at this; omega
      have HN7 := Aside0.mk hl7
      have HN8 : Aside0 ((ltD.data.toList ++ byD id lo hi ds).length ≤ 140737488355328) := ⟨by omega⟩
      clear hlen hl8 hl7
      go_wp2_with fail
      refine (sealed_any w _ b _ HE.out.bld HN7.out HN8.out HT.out).mono ?_
      rintro e w9 ⟨rfl, hb9⟩
      have HB9 := Aside0.mk hb9
      clear hb9
      go_wp2
      go_ret2
      exact ⟨rfl, HB9.out⟩
end Go.Proofs.YtejjidggnnhgjaaDoor.HImEd
/- EncodeDelta of layer 12, by the program. -/
set_option linter.unusedVariables false
set_option linter.unusedSimpArgs false
namespace Go.Proofs.YtejjidggnnhgjaaDoor.HImEe
open Go.RowKit Go.Proofs.YtejjidggnnhgjaaDoor.PImg Go.Proofs.YtejjidggnnhgjaaDoor.HBase Go.Proofs.YtejjidggnnhgjaaDoor.HBlob Go.Proofs.YtejjidggnnhgjaaDoor.HSum Go.Proofs.YtejjidggnnhgjaaDoor.HCk Go.Proofs.YtejjidggnnhgjaaDoor.HBuildW Go.Proofs.YtejjidggnnhgjaaDoor.HImgW Go.Proofs.YtejjidggnnhgjaaDoor.HImP Go.Proofs.YtejjidggnnhgjaaDoor.HImD Go.Proofs.YtejjidggnnhgjaaDoor.HImE Go.Proofs.YtejjidggnnhgjaaDoorW.PrintWords Go.Proofs.YtejjidggnnhgjaaDoorW.PrintLast Go.Proofs.YtejjidggnnhgjaaDoorW.PrintMore Go.Proofs.YtejjidggnnhgjaaDoor.HCore
set_option maxRecDepth 100000 in
set_option maxHeartbeats 1000000 in
theorem no (k : Nat) (id lo hi gen : Int) (A : Option Addr) (c : Nat) (ds : List SD) (A2 : Option Addr) (c2 : Nat) (es : List SE) (w : World) (hC : Kd.C k58 w A ds.length ds) (hc : ds.length ≤ c) (hC2 : Kd.C k60 w A2 es.length es) (hc2 : es.length ≤ c2) (hg : image_goodDelta.f k id lo hi ds gen es = some false) :
    Calls Tryd.prog 16 #[.agg #[.int .i64 id, .int .u64 lo, .int .u64 hi, .slice A ds.length c, .int .i64 gen, .slice A2 es.length c2]] w fun e w' => e = .returned (.tuple #[.string (⟨#[]⟩ : ByteArray), .int .i64 2]) ∧ Below w.heap.size w w' := by
  have HG := Aside0.mk hg
  have HC := Aside0.mk hC
  have HC2 := Aside0.mk hC2
  clear hC hC2 hg
  go_enter Tryd.func16, Tryd.ntmps16
  go_wp2_with fail
  refine (image_goodDelta.calls k id lo hi A c ds gen A2 c2 es false _ (Kd.C_alloc HC.out _) hc (Kd.C_alloc HC2.out _) hc2 HG.out).mono ?_
  rintro e w1 ⟨rfl, hb1⟩
  have HB1 := Aside0.mk (below_then (below_alloc (Below.refl w.heap.size w) (.cells #[.int .i64 id, .int .u64 lo, .int .u64 hi, .slice A ds.length c, .int .i64 gen, .slice A2 es.length c2] 46)) (by simp) hb1)
  clear hb1
  go_wp2
  go_ret2
  exact ⟨rfl, HB1.out⟩
set_option maxRecDepth 100000 in
set_option maxHeartbeats 8000000 in
theorem yes (k : Nat) (id lo hi gen : Int) (A : Option Addr) (c : Nat) (ds : List SD) (A2 : Option Addr) (c2 : Nat) (es : List SE) (w : World) (hC : Kd.C k58 w A ds.length ds) (hc : ds.length ≤ c) (hC2 : Kd.C k60 w A2 es.length es) (hc2 : es.length ≤ c2) (hT : Tab w) (hg : image_goodDelta.f k id lo hi ds gen es = some true) (hgd : gdE id gen es = true) :
    Calls Tryd.prog 16 #[.agg #[.int .i64 id, .int .u64 lo, .int .u64 hi, .slice A ds.length c, .int .i64 gen, .slice A2 es.length c2]] w fun e w' => e = .returned (.tuple #[.string (fileOf ltE (byE id gen es)), .int .i64 0]) ∧ Below w.heap.size w w' := by
  obtain ⟨⟨g1, g2, g3, g4, g5, g7⟩, g6⟩ := gdE_parts hgd
  have HG := Aside0.mk hg
  have HC := Aside0.mk hC
  have HC2 := Aside0.mk hC2
  have HT := Aside0.mk hT
  have HO := Aside0.mk (okE_nonneg es 0 (Int.le_refl 0) g6)
  have HY : Aside0 (ltE.data.toList ++ byE id gen es = (ltE.data.toList ++ ub id ++ ub gen ++ ub (es.length : Int)) ++ ens wrE nxE 0 es) := ⟨by unfold byE; simp only [List.append_assoc]⟩
  have u0 : ltE.data.toList.length = 8 := rfl
  have u1 := ub_len (id)
  have u2 := ub_len (gen)
  have u3 := ub_len ((es.length : Int))
  clear hC hT hgd g6 hC2 hg
  go_enter Tryd.func16, Tryd.ntmps16
  go_wp2_with fail
  refine (image_goodDelta.calls k id lo hi A c ds gen A2 c2 es true _ (Kd.C_alloc HC.out _) hc (Kd.C_alloc HC2.out _) hc2 HG.out).mono ?_
  rintro e w1 ⟨rfl, hb1⟩
  have HB1 := Aside0.mk (below_then (below_alloc (Below.refl w.heap.size w) (.cells #[.int .i64 id, .int .u64 lo, .int .u64 hi, .slice A ds.length c, .int .i64 gen, .slice A2 es.length c2] 46)) (by simp) hb1)
  have HX1 := Aside0.mk ((hb1.block _ (blk_lt (heap_alloc_new _ _))).trans (heap_alloc_new w (.cells #[.int .i64 id, .int .u64 lo, .int .u64 hi, .slice A ds.length c, .int .i64 gen, .slice A2 es.length c2] 46)))
  clear hb1 HG
  go_wp2_with fail
  refine (new_es ltE w w1 (by decide) HB1.out [(w.heap.size, #[.int .i64 id, .int .u64 lo, .int .u64 hi, .slice A ds.length c, .int .i64 gen, .slice A2 es.length c2], 46)] (fun t ht => by rcases List.mem_singleton.1 ht with rfl; exact ⟨HX1.out, show (46 : Nat) ≠ 5 by decide⟩)).mono ?_
  rintro e w2 ⟨b, rfl, he2⟩
  have HE := Aside0.mk he2
  clear he2 HB1 HX1
  obtain ⟨x0, x1, x2, x3, x4, x5⟩ : w2.cell? ⟨w.heap.size, 0, none⟩ = some (.int .i64 id) ∧ w2.cell? ⟨w.heap.size, 1, none⟩ = some (.int .u64 lo) ∧ w2.cell? ⟨w.heap.size, 2, none⟩ = some (.int .u64 hi) ∧ w2.cell? ⟨w.heap.size, 3, none⟩ = some (.slice A ds.length c) ∧ w2.cell? ⟨w.heap.size, 4, none⟩ = some (.int .i64 gen) ∧ w2.cell? ⟨w.heap.size, 5, none⟩ = some (.slice A2 es.length c2) := ⟨(blk_cell HE.out.one 0).trans rfl, (blk_cell HE.out.one 1).trans rfl, (blk_cell HE.out.one 2).trans rfl, (blk_cell HE.out.one 3).trans rfl, (blk_cell HE.out.one 4).trans rfl, (blk_cell HE.out.one 5).trans rfl⟩
  go_wp2_with fail
  refine (number_es w _ b _ (id) HE.out ⟨by omega, by omega⟩ (by first | omega | (simp only [List.length_append]; omega))).mono ?_
  rintro e w3 ⟨rfl, he⟩
  clear x0 x1 x2 x3 x4 x5 HE
  have HE := Aside0.mk he
  clear he
  obtain ⟨x0, x1, x2, x3, x4, x5⟩ : w3.cell? ⟨w.heap.size, 0, none⟩ = some (.int .i64 id) ∧ w3.cell? ⟨w.heap.size, 1, none⟩ = some (.int .u64 lo) ∧ w3.cell? ⟨w.heap.size, 2, none⟩ = some (.int .u64 hi) ∧ w3.cell? ⟨w.heap.size, 3, none⟩ = some (.slice A ds.length c) ∧ w3.cell? ⟨w.heap.size, 4, none⟩ = some (.int .i64 gen) ∧ w3.cell? ⟨w.heap.size, 5, none⟩ = some (.slice A2 es.length c2) := ⟨(blk_cell HE.out.one 0).trans rfl, (blk_cell HE.out.one 1).trans rfl, (blk_cell HE.out.one 2).trans rfl, (blk_cell HE.out.one 3).trans rfl, (blk_cell HE.out.one 4).trans rfl, (blk_cell HE.out.one 5).trans rfl⟩
  go_wp2_with fail
  refine (number_es w _ b _ (gen) HE.out ⟨by omega, by omega⟩ (by first | omega | (simp only [List.length_append]; omega))).mono ?_
  rintro e w4 ⟨rfl, he⟩
  clear x0 x1 x2 x3 x4 x5 HE
  have HE := Aside0.mk he
  clear he
  obtain ⟨x0, x1, x2, x3, x4, x5⟩ : w4.cell? ⟨w.heap.size, 0, none⟩ = some (.int .i64 id) ∧ w4.cell? ⟨w.heap.size, 1, none⟩ = some (.int .u64 lo) ∧ w4.cell? ⟨w.heap.size, 2, none⟩ = some (.int .u64 hi) ∧ w4.cell? ⟨w.heap.size, 3, none⟩ = some (.slice A ds.length c) ∧ w4.cell? ⟨w.heap.size, 4, none⟩ = some (.int .i64 gen) ∧ w4.cell? ⟨w.heap.size, 5, none⟩ = some (.slice A2 es.length c2) := ⟨(blk_cell HE.out.one 0).trans rfl, (blk_cell HE.out.one 1).trans rfl, (blk_cell HE.out.one 2).trans rfl, (blk_cell HE.out.one 3).trans rfl, (blk_cell HE.out.one 4).trans rfl, (blk_cell HE.out.one 5).trans rfl⟩
  go_wp2_with fail
  refine (number_es w _ b _ ((es.length : Int)) HE.out ⟨by omega, by omega⟩ (by first | omega | (simp only [List.length_append]; omega))).mono ?_
  rintro e w5 ⟨rfl, he⟩
  clear x0 x1 x2 x3 x4 x5 HE
  have HE := Aside0.mk he
  clear he
  obtain ⟨x0, x1, x2, x3, x4, x5⟩ : w5.cell? ⟨w.heap.size, 0, none⟩ = some (.int .i64 id) ∧ w5.cell? ⟨w.heap.size, 1, none⟩ = some (.int .u64 lo) ∧ w5.cell? ⟨w.heap.size, 2, none⟩ = some (.int .u64 hi) ∧ w5.cell? ⟨w.heap.size, 3, none⟩ = some (.slice A ds.length c) ∧ w5.cell? ⟨w.heap.size, 4, none⟩ = some (.int .i64 gen) ∧ w5.cell? ⟨w.heap.size, 5, none⟩ = some (.slice A2 es.length c2) := ⟨(blk_cell HE.out.one 0).trans rfl, (blk_cell HE.out.one 1).trans rfl, (blk_cell HE.out.one 2).trans rfl, (blk_cell HE.out.one 3).trans rfl, (blk_cell HE.out.one 4).trans rfl, (blk_cell HE.out.one 5).trans rfl⟩
  obtain ⟨l0, hl0⟩ : ∃ l0, l0 = ltE.data.toList ++ ub id ++ ub gen ++ ub (es.length : Int) := ⟨_, rfl⟩
  have hl1 : l0.length ≤ 60 := by rw [hl0]; simp only [List.length_append]; omega
  rw [← hl0] at HE HY
  have HL := Aside0.mk hl1
  clear hl0 hl1 u0 u1 u2 u3
  go_wp2
  clear x0 x1 x2 x3 x4 x5
  go_loopw [5, 31] (fun vl vi wr => ∃ k : Nat, k ≤ es.length ∧ vi = .int .i64 (k : Int) ∧ vl = .int .u64 (lst nxE 0 (es.take k)) ∧ Aside0 (Es w wr b (l0 ++ ens wrE nxE 0 (es.take k)) [(w.heap.size, #[.int .i64 id, .int .u64 lo, .int .u64 hi, .slice A ds.length c, .int .i64 gen, .slice A2 es.length c2], 46)])) (fun _ vi _ => es.length - (intOf vi).toNat)
  case atStart => exact ⟨0, by omega, rfl, rfl, ⟨by rw [List.take_zero, show ens wrE nxE 0 [] = [] from rfl, List.append_nil]; exact HE.out⟩⟩
  case round =>
    clear HE
    obtain ⟨k, hk, rfl, rfl, HE⟩ := hrel
    by_cases hlt : k < es.length
    · have HCr := Kd.C_below HC2.out HE.out.bld.below
      obtain ⟨ad, eA, y0, y1, y2⟩ := at_T60 HCr (k : Int) (by omega) (by omega)
      subst eA
      simp only [Int.toNat_natCast] at y0 y1 y2
      obtain ⟨hokt, hok, hnx⟩ := oks_take HO.out k hlt
      have hlen := ens_len (wr := wrE) (fun st x h => wrE_len h.2) _ _ hokt
      rw [List.length_take] at hlen
      have hget : rd_T60 es (k : Int) = es[k] := by unfold rd_T60; rw [Int.toNat_natCast, List.getD_eq_getElem?_getD, List.getElem?_eq_getElem hlt, Option.getD_some]
      have hstep : ens wrE nxE 0 (es.take (k + 1)) = ens wrE nxE 0 (es.take k) ++ wrE (lst nxE 0 (es.take k)) es[k] := by rw [List.take_succ_eq_append_getElem hlt, ens_snoc]
      have hl9 : (l0 ++ ens wrE nxE 0 (es.take k)).length ≤ 60 + 710 * 65536 := by rw [List.length_append]; have := HL.out; omega
      rw [← hget] at hok hnx hstep
      have HN := Aside0.mk hnx
      generalize rd_T60 es (k : Int) = x at y0 y1 y2 hok hstep HN
      have HP := Aside0.mk hstep
      generalize ens wrE nxE 0 (es.take k) = pre at HE hl9 HP
      generalize lst nxE 0 (es.take k) = st at hok HP ⊢
      rw [List.length_append] at hl9
      clear hnx hstep hlen hokt hget HCr
      obtain ⟨hst, o1, o2, o3, o4, o5⟩ := hok
      have vt := tb_len x.f2
      have HE := Aside0.mk (HE.out.add #[.int .u64 x.f0, .int .u64 x.f1, .string x.f2] 60 (by decide))
      --LOOP0
      go_wp2_with fail
      clear y0 y1 y2
      generalize wr.heap.size = vb at HE ⊢
      have uu := ub_len (x.f0 - st)
      refine (number_es w _ b _ (x.f0 - st) HE.out ⟨by omega, by omega⟩ (by first | omega | (simp only [List.length_append]; omega))).mono ?_
      rintro e v0 ⟨rfl, he⟩
      clear HE
      have HE := Aside0.mk he
      clear he
      generalize hub0 : ub (x.f0 - st) = b0 at HE uu
      have HU0 := Aside0.mk hub0
      clear hub0
      obtain ⟨y0, y1, y2⟩ : v0.cell? ⟨vb, 0, none⟩ = some (.int .u64 x.f0) ∧ v0.cell? ⟨vb, 1, none⟩ = some (.int .u64 x.f1) ∧ v0.cell? ⟨vb, 2, none⟩ = some (.string x.f2) := ⟨(blk_cell HE.out.one 0).trans rfl, (blk_cell HE.out.one 1).trans rfl, (blk_cell HE.out.one 2).trans rfl⟩
      --REGL0
      go_wp2_with fail
      have uu := ub_len (x.f1 - x.f0)
      refine (number_es w _ b _ (x.f1 - x.f0) HE.out ⟨by omega, by omega⟩ (by first | omega | (simp only [List.length_append]; omega))).mono ?_
      rintro e v1 ⟨rfl, he⟩
      clear y0 y1 y2
      clear HE
      have HE := Aside0.mk he
      clear he
      generalize hub1 : ub (x.f1 - x.f0) = b1 at HE uu
      have HU1 := Aside0.mk hub1
      clear hub1
      obtain ⟨y0, y1, y2⟩ : v1.cell? ⟨vb, 0, none⟩ = some (.int .u64 x.f0) ∧ v1.cell? ⟨vb, 1, none⟩ = some (.int .u64 x.f1) ∧ v1.cell? ⟨vb, 2, none⟩ = some (.string x.f2) := ⟨(blk_cell HE.out.one 0).trans rfl, (blk_cell HE.out.one 1).trans rfl, (blk_cell HE.out.one 2).trans rfl⟩
      --REGL1
      go_wp2_with fail
      refine (text_es w _ b _ (x.f2) HE.out (by omega) (by first | omega | (simp only [List.length_append]; omega))).mono ?_
      rintro e v2 ⟨rfl, he⟩
      clear y0 y1 y2
      clear HE
      have HE := Aside0.mk he
      clear he
      obtain ⟨y0, y1, y2⟩ : v2.cell? ⟨vb, 0, none⟩ = some (.int .u64 x.f0) ∧ v2.cell? ⟨vb, 1, none⟩ = some (.int .u64 x.f1) ∧ v2.cell? ⟨vb, 2, none⟩ = some (.string x.f2) := ⟨(blk_cell HE.out.one 0).trans rfl, (blk_cell HE.out.one 1).trans rfl, (blk_cell HE.out.one 2).trans rfl⟩
      go_wp2
      go_roundw
      case rel => exact ⟨k + 1, by omega, by go_num, by rw [HN.out]; rfl, ⟨by rw [HP.out, ← List.append_assoc]; unfold wrE; rw [HU0.out, HU1.out]; simp only [List.append_assoc]; have h := HE.out; simp only [List.append_assoc] at h; exact h.less (fun t ht => List.mem_cons_of_mem _ ht)⟩⟩
      case measure => simp [intOf]; omega
    · obtain rfl : k = es.length := by omega
      rw [List.take_length] at HE ⊢
      have hlen := ens_len (wr := wrE) (fun st x h => wrE_len h.2) _ _ HO.out
      rw [← HY.out] at HE
      have hl8 : (ltE.data.toList ++ byE id gen es).length ≤ 60 + 710 * 65536 := by rw [HY.out, List.length_append]; have := HL.out; omega
      have hl7 : ltE.data.toList ++ byE id gen es ≠ [] := fun h => by have := congrArg List.length h; rw [List.length_append] at this; simp only [show ltE.data.toList.length = 8 from rfl, List.length_nil] at this; omega
      have HN7 := Aside0.mk hl7
      have HN8 : Aside0 ((ltE.data.toList ++ byE id gen es).length ≤ 140737488355328) := ⟨by omega⟩
      clear hlen hl8 hl7
      go_wp2_with fail
      refine (sealed_any w _ b _ HE.out.bld HN7.out HN8.out HT.out).mono ?_
      rintro e w9 ⟨rfl, hb9⟩
      have HB9 := Aside0.mk hb9
      clear hb9
      go_wp2
      go_ret2
      exact ⟨rfl, HB9.out⟩
end Go.Proofs.YtejjidggnnhgjaaDoor.HImEe
/- EncodeManifest of layer 12, by the program. -/
set_option linter.unusedVariables false
set_option linter.unusedSimpArgs false
namespace Go.Proofs.YtejjidggnnhgjaaDoor.HImEm
open Go.RowKit Go.Proofs.YtejjidggnnhgjaaDoor.PImg Go.Proofs.YtejjidggnnhgjaaDoor.HBase Go.Proofs.YtejjidggnnhgjaaDoor.HBlob Go.Proofs.YtejjidggnnhgjaaDoor.HSum Go.Proofs.YtejjidggnnhgjaaDoor.HCk Go.Proofs.YtejjidggnnhgjaaDoor.HBuildW Go.Proofs.YtejjidggnnhgjaaDoor.HImgW Go.Proofs.YtejjidggnnhgjaaDoor.HImP Go.Proofs.YtejjidggnnhgjaaDoor.HImD Go.Proofs.YtejjidggnnhgjaaDoor.HImE Go.Proofs.YtejjidggnnhgjaaDoorW.PrintWords Go.Proofs.YtejjidggnnhgjaaDoorW.PrintLast Go.Proofs.YtejjidggnnhgjaaDoorW.PrintMore Go.Proofs.YtejjidggnnhgjaaDoor.HCore
set_option maxRecDepth 100000 in
set_option maxHeartbeats 1000000 in
theorem no  (gen next upto : Int) (A : Option Addr) (c : Nat) (ps : List SN) (w : World) (hC : Kd.C k36 w A ps.length ps) (hc : ps.length ≤ c) (hn : ps.length ≤ 9223372036854775807) (hr : ∀ x ∈ ps, (Lit.int .i64 x.f0).wf = true) (hgd : gdN gen next upto ps = false) :
    Calls Tryd.prog 8 #[.agg #[.int .i64 gen, .int .i64 next, .int .u64 upto, .slice A ps.length c]] w fun e w' => e = .returned (.tuple #[.string (⟨#[]⟩ : ByteArray), .int .i64 2]) ∧ Below w.heap.size w w' := by
  have HC := Aside0.mk hC
  have HR := Aside0.mk hr
  clear hC hr
  go_enter Tryd.func8, Tryd.ntmps8
  go_wp2_with fail
  refine (HImGm.good_any gen next upto A c ps _ (Kd.C_alloc HC.out _) hc hn HR.out).mono ?_
  rw [hgd]
  rintro e w1 ⟨rfl, hb1⟩
  have HB1 := Aside0.mk (below_then (below_alloc (Below.refl w.heap.size w) (.cells #[.int .i64 gen, .int .i64 next, .int .u64 upto, .slice A ps.length c] 25)) (by simp) hb1)
  clear hb1
  go_wp2
  go_ret2
  exact ⟨rfl, HB1.out⟩
set_option maxRecDepth 100000 in
set_option maxHeartbeats 8000000 in
theorem yes  (gen next upto : Int) (A : Option Addr) (c : Nat) (ps : List SN) (w : World) (hC : Kd.C k36 w A ps.length ps) (hc : ps.length ≤ c) (hn : ps.length ≤ 9223372036854775807) (hr : ∀ x ∈ ps, (Lit.int .i64 x.f0).wf = true) (hT : Tab w) (hs : ∀ x ∈ ps, Su x) (h0 : 0 ≤ upto) (hgd : gdN gen next upto ps = true) :
    Calls Tryd.prog 8 #[.agg #[.int .i64 gen, .int .i64 next, .int .u64 upto, .slice A ps.length c]] w fun e w' => e = .returned (.tuple #[.string (fileOf ltN (byN gen next upto ps)), .int .i64 0]) ∧ Below w.heap.size w w' := by
  obtain ⟨⟨g1, g2, g3, g4, g5, g7⟩, g6⟩ := gdN_parts hs hgd
  have HGd := Aside0.mk hgd
  have HR := Aside0.mk hr
  have HC := Aside0.mk hC
  have HT := Aside0.mk hT
  have HO := Aside0.mk (okN_nonneg ps 0 (Int.le_refl 0) g6)
  have HY : Aside0 (ltN.data.toList ++ byN gen next upto ps = (ltN.data.toList ++ ub gen ++ ub next ++ ub upto ++ ub (ps.length : Int)) ++ ens wrN nxN 0 ps) := ⟨by unfold byN; simp only [List.append_assoc]⟩
  have u0 : ltN.data.toList.length = 8 := rfl
  have u1 := ub_len (gen)
  have u2 := ub_len (next)
  have u3 := ub_len (upto)
  have u4 := ub_len ((ps.length : Int))
  clear hC hT hgd g6 hs hr
  go_enter Tryd.func8, Tryd.ntmps8
  go_wp2_with fail
  refine (HImGm.good_any gen next upto A c ps _ (Kd.C_alloc HC.out _) hc hn HR.out).mono ?_
  rw [HGd.out]
  rintro e w1 ⟨rfl, hb1⟩
  have HB1 := Aside0.mk (below_then (below_alloc (Below.refl w.heap.size w) (.cells #[.int .i64 gen, .int .i64 next, .int .u64 upto, .slice A ps.length c] 25)) (by simp) hb1)
  have HX1 := Aside0.mk ((hb1.block _ (blk_lt (heap_alloc_new _ _))).trans (heap_alloc_new w (.cells #[.int .i64 gen, .int .i64 next, .int .u64 upto, .slice A ps.length c] 25)))
  clear hb1
  go_wp2_with fail
  refine (new_es ltN w w1 (by decide) HB1.out [(w.heap.size, #[.int .i64 gen, .int .i64 next, .int .u64 upto, .slice A ps.length c], 25)] (fun t ht => by rcases List.mem_singleton.1 ht with rfl; exact ⟨HX1.out, show (25 : Nat) ≠ 5 by decide⟩)).mono ?_
  rintro e w2 ⟨b, rfl, he2⟩
  have HE := Aside0.mk he2
  clear he2 HB1 HX1
  obtain ⟨x0, x1, x2, x3⟩ : w2.cell? ⟨w.heap.size, 0, none⟩ = some (.int .i64 gen) ∧ w2.cell? ⟨w.heap.size, 1, none⟩ = some (.int .i64 next) ∧ w2.cell? ⟨w.heap.size, 2, none⟩ = some (.int .u64 upto) ∧ w2.cell? ⟨w.heap.size, 3, none⟩ = some (.slice A ps.length c) := ⟨(blk_cell HE.out.one 0).trans rfl, (blk_cell HE.out.one 1).trans rfl, (blk_cell HE.out.one 2).trans rfl, (blk_cell HE.out.one 3).trans rfl⟩
  go_wp2_with fail
  refine (number_es w _ b _ (gen) HE.out ⟨by omega, by omega⟩ (by first | omega | (simp only [List.length_append]; omega))).mono ?_
  rintro e w3 ⟨rfl, he⟩
  clear x0 x1 x2 x3 HE
  have HE := Aside0.mk he
  clear he
  obtain ⟨x0, x1, x2, x3⟩ : w3.cell? ⟨w.heap.size, 0, none⟩ = some (.int .i64 gen) ∧ w3.cell? ⟨w.heap.size, 1, none⟩ = some (.int .i64 next) ∧ w3.cell? ⟨w.heap.size, 2, none⟩ = some (.int .u64 upto) ∧ w3.cell? ⟨w.heap.size, 3, none⟩ = some (.slice A ps.length c) := ⟨(blk_cell HE.out.one 0).trans rfl, (blk_cell HE.out.one 1).trans rfl, (blk_cell HE.out.one 2).trans rfl, (blk_cell HE.out.one 3).trans rfl⟩
  go_wp2_with fail
  refine (number_es w _ b _ (next) HE.out ⟨by omega, by omega⟩ (by first | omega | (simp only [List.length_append]; omega))).mono ?_
  rintro e w4 ⟨rfl, he⟩
  clear x0 x1 x2 x3 HE
  have HE := Aside0.mk he
  clear he
  obtain ⟨x0, x1, x2, x3⟩ : w4.cell? ⟨w.heap.size, 0, none⟩ = some (.int .i64 gen) ∧ w4.cell? ⟨w.heap.size, 1, none⟩ = some (.int .i64 next) ∧ w4.cell? ⟨w.heap.size, 2, none⟩ = some (.int .u64 upto) ∧ w4.cell? ⟨w.heap.size, 3, none⟩ = some (.slice A ps.length c) := ⟨(blk_cell HE.out.one 0).trans rfl, (blk_cell HE.out.one 1).trans rfl, (blk_cell HE.out.one 2).trans rfl, (blk_cell HE.out.one 3).trans rfl⟩
  go_wp2_with fail
  refine (number_es w _ b _ (upto) HE.out ⟨by omega, by omega⟩ (by first | omega | (simp only [List.length_append]; omega))).mono ?_
  rintro e w5 ⟨rfl, he⟩
  clear x0 x1 x2 x3 HE
  have HE := Aside0.mk he
  clear he
  obtain ⟨x0, x1, x2, x3⟩ : w5.cell? ⟨w.heap.size, 0, none⟩ = some (.int .i64 gen) ∧ w5.cell? ⟨w.heap.size, 1, none⟩ = some (.int .i64 next) ∧ w5.cell? ⟨w.heap.size, 2, none⟩ = some (.int .u64 upto) ∧ w5.cell? ⟨w.heap.size, 3, none⟩ = some (.slice A ps.length c) := ⟨(blk_cell HE.out.one 0).trans rfl, (blk_cell HE.out.one 1).trans rfl, (blk_cell HE.out.one 2).trans rfl, (blk_cell HE.out.one 3).trans rfl⟩
  go_wp2_with fail
  refine (number_es w _ b _ ((ps.length : Int)) HE.out ⟨by omega, by omega⟩ (by first | omega | (simp only [List.length_append]; omega))).mono ?_
  rintro e w6 ⟨rfl, he⟩
  clear x0 x1 x2 x3 HE
  have HE := Aside0.mk he
  clear he
  obtain ⟨x0, x1, x2, x3⟩ : w6.cell? ⟨w.heap.size, 0, none⟩ = some (.int .i64 gen) ∧ w6.cell? ⟨w.heap.size, 1, none⟩ = some (.int .i64 next) ∧ w6.cell? ⟨w.heap.size, 2, none⟩ = some (.int .u64 upto) ∧ w6.cell? ⟨w.heap.size, 3, none⟩ = some (.slice A ps.length c) := ⟨(blk_cell HE.out.one 0).trans rfl, (blk_cell HE.out.one 1).trans rfl, (blk_cell HE.out.one 2).trans rfl, (blk_cell HE.out.one 3).trans rfl⟩
  obtain ⟨l0, hl0⟩ : ∃ l0, l0 = ltN.data.toList ++ ub gen ++ ub next ++ ub upto ++ ub (ps.length : Int) := ⟨_, rfl⟩
  have hl1 : l0.length ≤ 60 := by rw [hl0]; simp only [List.length_append]; omega
  rw [← hl0] at HE HY
  have HL := Aside0.mk hl1
  clear hl0 hl1 u0 u1 u2 u3 u4
  go_wp2
  clear x0 x1 x2 x3
  go_loopw [5, 35] (fun vl vi wr => ∃ k : Nat, k ≤ ps.length ∧ vi = .int .i64 (k : Int) ∧ vl = .int .u64 (lst nxN 0 (ps.take k)) ∧ Aside0 (Es w wr b (l0 ++ ens wrN nxN 0 (ps.take k)) [(w.heap.size, #[.int .i64 gen, .int .i64 next, .int .u64 upto, .slice A ps.length c], 25)])) (fun _ vi _ => ps.length - (intOf vi).toNat)
  case atStart => exact ⟨0, by omega, rfl, rfl, ⟨by rw [List.take_zero, show ens wrN nxN 0 [] = [] from rfl, List.append_nil]; exact HE.out⟩⟩
  case round =>
    clear HE
    obtain ⟨k, hk, rfl, rfl, HE⟩ := hrel
    by_cases hlt : k < ps.length
    · have HCr := Kd.C_below HC.out HE.out.bld.below
      obtain ⟨ad, eA, y0, y1, y2, y3, y4, y5, y6, y7⟩ := at_T36 HCr (k : Int) (by omega) (by omega)
      subst eA
      simp only [Int.toNat_natCast] at y0 y1 y2 y3 y4 y5 y6 y7
      obtain ⟨hokt, hok, hnx⟩ := oks_take HO.out k hlt
      have hlen := ens_len (wr := wrN) (fun st x h => wrN_len st x) _ _ hokt
      rw [List.length_take] at hlen
      have hget : rd_T36 ps (k : Int) = ps[k] := by unfold rd_T36; rw [Int.toNat_natCast, List.getD_eq_getElem?_getD, List.getElem?_eq_getElem hlt, Option.getD_some]
      have hstep : ens wrN nxN 0 (ps.take (k + 1)) = ens wrN nxN 0 (ps.take k) ++ wrN (lst nxN 0 (ps.take k)) ps[k] := by rw [List.take_succ_eq_append_getElem hlt, ens_snoc]
      have hl9 : (l0 ++ ens wrN nxN 0 (ps.take k)).length ≤ 60 + 710 * 65536 := by rw [List.length_append]; have := HL.out; omega
      rw [← hget] at hok hnx hstep
      have HN := Aside0.mk hnx
      generalize rd_T36 ps (k : Int) = x at y0 y1 y2 y3 y4 y5 y6 y7 hok hstep HN
      have HP := Aside0.mk hstep
      generalize ens wrN nxN 0 (ps.take k) = pre at HE hl9 HP
      generalize lst nxN 0 (ps.take k) = st at hok HP ⊢
      rw [List.length_append] at hl9
      clear hnx hstep hlen hokt hget HCr
      obtain ⟨hst, ⟨o0, o1⟩, o2, o3, o4, ⟨o5, o6⟩, ⟨o7, o8⟩, ⟨o9, o10⟩, ⟨⟨o11, o12⟩, ⟨o13, o14⟩⟩⟩ := hok
      have HE := Aside0.mk (HE.out.add #[.int .i64 x.f0, .int .u64 x.f1, .int .u64 x.f2, .int .i64 x.f3, .int .i64 x.f4, .int .i64 x.f5, .int .u32 x.f6, .int .u32 x.f7] 36 (by decide))
      --LOOP0
      go_wp2_with fail
      clear y0 y1 y2 y3 y4 y5 y6 y7
      generalize wr.heap.size = vb at HE ⊢
      have uu := ub_len (x.f0)
      refine (number_es w _ b _ (x.f0) HE.out ⟨by omega, by omega⟩ (by first | omega | (simp only [List.length_append]; omega))).mono ?_
      rintro e v0 ⟨rfl, he⟩
      clear HE
      have HE := Aside0.mk he
      clear he
      generalize hub0 : ub (x.f0) = b0 at HE uu
      have HU0 := Aside0.mk hub0
      clear hub0
      obtain ⟨y0, y1, y2, y3, y4, y5, y6, y7⟩ : v0.cell? ⟨vb, 0, none⟩ = some (.int .i64 x.f0) ∧ v0.cell? ⟨vb, 1, none⟩ = some (.int .u64 x.f1) ∧ v0.cell? ⟨vb, 2, none⟩ = some (.int .u64 x.f2) ∧ v0.cell? ⟨vb, 3, none⟩ = some (.int .i64 x.f3) ∧ v0.cell? ⟨vb, 4, none⟩ = some (.int .i64 x.f4) ∧ v0.cell? ⟨vb, 5, none⟩ = some (.int .i64 x.f5) ∧ v0.cell? ⟨vb, 6, none⟩ = some (.int .u32 x.f6) ∧ v0.cell? ⟨vb, 7, none⟩ = some (.int .u32 x.f7) := ⟨(blk_cell HE.out.one 0).trans rfl, (blk_cell HE.out.one 1).trans rfl, (blk_cell HE.out.one 2).trans rfl, (blk_cell HE.out.one 3).trans rfl, (blk_cell HE.out.one 4).trans rfl, (blk_cell HE.out.one 5).trans rfl, (blk_cell HE.out.one 6).trans rfl, (blk_cell HE.out.one 7).trans rfl⟩
      --REGL0
      go_wp2_with fail
      have uu := ub_len (x.f1 - st)
      refine (number_es w _ b _ (x.f1 - st) HE.out ⟨by omega, by omega⟩ (by first | omega | (simp only [List.length_append]; omega))).mono ?_
      rintro e v1 ⟨rfl, he⟩
      clear y0 y1 y2 y3 y4 y5 y6 y7
      clear HE
      have HE := Aside0.mk he
      clear he
      generalize hub1 : ub (x.f1 - st) = b1 at HE uu
      have HU1 := Aside0.mk hub1
      clear hub1
      obtain ⟨y0, y1, y2, y3, y4, y5, y6, y7⟩ : v1.cell? ⟨vb, 0, none⟩ = some (.int .i64 x.f0) ∧ v1.cell? ⟨vb, 1, none⟩ = some (.int .u64 x.f1) ∧ v1.cell? ⟨vb, 2, none⟩ = some (.int .u64 x.f2) ∧ v1.cell? ⟨vb, 3, none⟩ = some (.int .i64 x.f3) ∧ v1.cell? ⟨vb, 4, none⟩ = some (.int .i64 x.f4) ∧ v1.cell? ⟨vb, 5, none⟩ = some (.int .i64 x.f5) ∧ v1.cell? ⟨vb, 6, none⟩ = some (.int .u32 x.f6) ∧ v1.cell? ⟨vb, 7, none⟩ = some (.int .u32 x.f7) := ⟨(blk_cell HE.out.one 0).trans rfl, (blk_cell HE.out.one 1).trans rfl, (blk_cell HE.out.one 2).trans rfl, (blk_cell HE.out.one 3).trans rfl, (blk_cell HE.out.one 4).trans rfl, (blk_cell HE.out.one 5).trans rfl, (blk_cell HE.out.one 6).trans rfl, (blk_cell HE.out.one 7).trans rfl⟩
      --REGL1
      go_wp2_with fail
      have uu := ub_len (x.f2 - x.f1)
      refine (number_es w _ b _ (x.f2 - x.f1) HE.out ⟨by omega, by omega⟩ (by first | omega | (simp only [List.length_append]; omega))).mono ?_
      rintro e v2 ⟨rfl, he⟩
      clear y0 y1 y2 y3 y4 y5 y6 y7
      clear HE
      have HE := Aside0.mk he
      clear he
      generalize hub2 : ub (x.f2 - x.f1) = b2 at HE uu
      have HU2 := Aside0.mk hub2
      clear hub2
      obtain ⟨y0, y1, y2, y3, y4, y5, y6, y7⟩ : v2.cell? ⟨vb, 0, none⟩ = some (.int .i64 x.f0) ∧ v2.cell? ⟨vb, 1, none⟩ = some (.int .u64 x.f1) ∧ v2.cell? ⟨vb, 2, none⟩ = some (.int .u64 x.f2) ∧ v2.cell? ⟨vb, 3, none⟩ = some (.int .i64 x.f3) ∧ v2.cell? ⟨vb, 4, none⟩ = some (.int .i64 x.f4) ∧ v2.cell? ⟨vb, 5, none⟩ = some (.int .i64 x.f5) ∧ v2.cell? ⟨vb, 6, none⟩ = some (.int .u32 x.f6) ∧ v2.cell? ⟨vb, 7, none⟩ = some (.int .u32 x.f7) := ⟨(blk_cell HE.out.one 0).trans rfl, (blk_cell HE.out.one 1).trans rfl, (blk_cell HE.out.one 2).trans rfl, (blk_cell HE.out.one 3).trans rfl, (blk_cell HE.out.one 4).trans rfl, (blk_cell HE.out.one 5).trans rfl, (blk_cell HE.out.one 6).trans rfl, (blk_cell HE.out.one 7).trans rfl⟩
      --REGL2
      go_wp2_with fail
      have uu := ub_len (x.f3)
      refine (number_es w _ b _ (x.f3) HE.out ⟨by omega, by omega⟩ (by first | omega | (simp only [List.length_append]; omega))).mono ?_
      rintro e v3 ⟨rfl, he⟩
      clear y0 y1 y2 y3 y4 y5 y6 y7
      clear HE
      have HE := Aside0.mk he
      clear he
      generalize hub3 : ub (x.f3) = b3 at HE uu
      have HU3 := Aside0.mk hub3
      clear hub3
      obtain ⟨y0, y1, y2, y3, y4, y5, y6, y7⟩ : v3.cell? ⟨vb, 0, none⟩ = some (.int .i64 x.f0) ∧ v3.cell? ⟨vb, 1, none⟩ = some (.int .u64 x.f1) ∧ v3.cell? ⟨vb, 2, none⟩ = some (.int .u64 x.f2) ∧ v3.cell? ⟨vb, 3, none⟩ = some (.int .i64 x.f3) ∧ v3.cell? ⟨vb, 4, none⟩ = some (.int .i64 x.f4) ∧ v3.cell? ⟨vb, 5, none⟩ = some (.int .i64 x.f5) ∧ v3.cell? ⟨vb, 6, none⟩ = some (.int .u32 x.f6) ∧ v3.cell? ⟨vb, 7, none⟩ = some (.int .u32 x.f7) := ⟨(blk_cell HE.out.one 0).trans rfl, (blk_cell HE.out.one 1).trans rfl, (blk_cell HE.out.one 2).trans rfl, (blk_cell HE.out.one 3).trans rfl, (blk_cell HE.out.one 4).trans rfl, (blk_cell HE.out.one 5).trans rfl, (blk_cell HE.out.one 6).trans rfl, (blk_cell HE.out.one 7).trans rfl⟩
      --REGL3
      go_wp2_with fail
      have uu := ub_len (x.f4)
      refine (number_es w _ b _ (x.f4) HE.out ⟨by omega, by omega⟩ (by first | omega | (simp only [List.length_append]; omega))).mono ?_
      rintro e v4 ⟨rfl, he⟩
      clear y0 y1 y2 y3 y4 y5 y6 y7
      clear HE
      have HE := Aside0.mk he
      clear he
      generalize hub4 : ub (x.f4) = b4 at HE uu
      have HU4 := Aside0.mk hub4
      clear hub4
      obtain ⟨y0, y1, y2, y3, y4, y5, y6, y7⟩ : v4.cell? ⟨vb, 0, none⟩ = some (.int .i64 x.f0) ∧ v4.cell? ⟨vb, 1, none⟩ = some (.int .u64 x.f1) ∧ v4.cell? ⟨vb, 2, none⟩ = some (.int .u64 x.f2) ∧ v4.cell? ⟨vb, 3, none⟩ = some (.int .i64 x.f3) ∧ v4.cell? ⟨vb, 4, none⟩ = some (.int .i64 x.f4) ∧ v4.cell? ⟨vb, 5, none⟩ = some (.int .i64 x.f5) ∧ v4.cell? ⟨vb, 6, none⟩ = some (.int .u32 x.f6) ∧ v4.cell? ⟨vb, 7, none⟩ = some (.int .u32 x.f7) := ⟨(blk_cell HE.out.one 0).trans rfl, (blk_cell HE.out.one 1).trans rfl, (blk_cell HE.out.one 2).trans rfl, (blk_cell HE.out.one 3).trans rfl, (blk_cell HE.out.one 4).trans rfl, (blk_cell HE.out.one 5).trans rfl, (blk_cell HE.out.one 6).trans rfl, (blk_cell HE.out.one 7).trans rfl⟩
      --REGL4
      go_wp2_with fail
      have uu := ub_len (x.f5)
      refine (number_es w _ b _ (x.f5) HE.out ⟨by omega, by omega⟩ (by first | omega | (simp only [List.length_append]; omega))).mono ?_
      rintro e v5 ⟨rfl, he⟩
      clear y0 y1 y2 y3 y4 y5 y6 y7
      clear HE
      have HE := Aside0.mk he
      clear he
      generalize hub5 : ub (x.f5) = b5 at HE uu
      have HU5 := Aside0.mk hub5
      clear hub5
      obtain ⟨y0, y1, y2, y3, y4, y5, y6, y7⟩ : v5.cell? ⟨vb, 0, none⟩ = some (.int .i64 x.f0) ∧ v5.cell? ⟨vb, 1, none⟩ = some (.int .u64 x.f1) ∧ v5.cell? ⟨vb, 2, none⟩ = some (.int .u64 x.f2) ∧ v5.cell? ⟨vb, 3, none⟩ = some (.int .i64 x.f3) ∧ v5.cell? ⟨vb, 4, none⟩ = some (.int .i64 x.f4) ∧ v5.cell? ⟨vb, 5, none⟩ = some (.int .i64 x.f5) ∧ v5.cell? ⟨vb, 6, none⟩ = some (.int .u32 x.f6) ∧ v5.cell? ⟨vb, 7, none⟩ = some (.int .u32 x.f7) := ⟨(blk_cell HE.out.one 0).trans rfl, (blk_cell HE.out.one 1).trans rfl, (blk_cell HE.out.one 2).trans rfl, (blk_cell HE.out.one 3).trans rfl, (blk_cell HE.out.one 4).trans rfl, (blk_cell HE.out.one 5).trans rfl, (blk_cell HE.out.one 6).trans rfl, (blk_cell HE.out.one 7).trans rfl⟩
      --REGL5
      have uu := fb_len (x.f6)
      go_upto_region 18 with (fail)
      have HSz : Aside0 ((l0 ++ pre ++ b0 ++ b1 ++ b2 ++ b3 ++ b4 ++ b5).length ≤ 100000000000000) := ⟨by simp only [List.length_append]; omega⟩
      go_cut [] (fun wx => Aside0 (Es w wx b ((l0 ++ pre ++ b0 ++ b1 ++ b2 ++ b3 ++ b4 ++ b5) ++ (fxb 4 (x.f6)).data.toList) [(vb, #[.int .i64 x.f0, .int .u64 x.f1, .int .u64 x.f2, .int .i64 x.f3, .int .i64 x.f4, .int .i64 x.f5, .int .u32 x.f6, .int .u32 x.f7], 36), (w.heap.size, #[.int .i64 gen, .int .i64 next, .int .u64 upto, .slice (some ad) ps.length c], 25)]))
      case first =>
        go_region_with (first | (go_at_call 32; refine (bits_Fixed32.calls _ _ _ (show bits_Fixed32.f (x.f6) = some (fxb 4 (x.f6)) from rfl)).mono ?_; rintro e wf ⟨rfl, hbf⟩; have HE1 := Aside0.mk (HE.out.drew.grown hbf); clear hbf) | (go_at_call 31; refine (string_es w _ b _ (fxb 4 (x.f6)) HE1.out (by rw [fxb_len]; omega) HSz.out).mono ?_; rintro e wg ⟨rfl, he⟩; have HE2 := Aside0.mk he; clear he))
        all_goals (go_wp2_with fail; go_meet; case rel => exact HE2)
      obtain ⟨v6, rfl⟩ : ∃ x, x = wc := ⟨_, rfl⟩
      have he := hcut.out
      clear hcut
      clear y0 y1 y2 y3 y4 y5 y6 y7
      clear HE
      have HE := Aside0.mk he
      clear he
      rw [show (fxb 4 (x.f6)).data.toList = fb (x.f6) from rfl] at HE
      generalize hub6 : fb (x.f6) = b6 at HE uu
      have HU6 := Aside0.mk hub6
      clear hub6
      obtain ⟨y0, y1, y2, y3, y4, y5, y6, y7⟩ : v6.cell? ⟨vb, 0, none⟩ = some (.int .i64 x.f0) ∧ v6.cell? ⟨vb, 1, none⟩ = some (.int .u64 x.f1) ∧ v6.cell? ⟨vb, 2, none⟩ = some (.int .u64 x.f2) ∧ v6.cell? ⟨vb, 3, none⟩ = some (.int .i64 x.f3) ∧ v6.cell? ⟨vb, 4, none⟩ = some (.int .i64 x.f4) ∧ v6.cell? ⟨vb, 5, none⟩ = some (.int .i64 x.f5) ∧ v6.cell? ⟨vb, 6, none⟩ = some (.int .u32 x.f6) ∧ v6.cell? ⟨vb, 7, none⟩ = some (.int .u32 x.f7) := ⟨(blk_cell HE.out.one 0).trans rfl, (blk_cell HE.out.one 1).trans rfl, (blk_cell HE.out.one 2).trans rfl, (blk_cell HE.out.one 3).trans rfl, (blk_cell HE.out.one 4).trans rfl, (blk_cell HE.out.one 5).trans rfl, (blk_cell HE.out.one 6).trans rfl, (blk_cell HE.out.one 7).trans rfl⟩
      --REGL6
      have uu := fb_len (x.f7)
      go_upto_region 19 with (fail)
      have HSz : Aside0 ((l0 ++ pre ++ b0 ++ b1 ++ b2 ++ b3 ++ b4 ++ b5 ++ b6).length ≤ 100000000000000) := ⟨by simp only [List.length_append]; omega⟩
      go_cut [] (fun wx => Aside0 (Es w wx b ((l0 ++ pre ++ b0 ++ b1 ++ b2 ++ b3 ++ b4 ++ b5 ++ b6) ++ (fxb 4 (x.f7)).data.toList) [(vb, #[.int .i64 x.f0, .int .u64 x.f1, .int .u64 x.f2, .int .i64 x.f3, .int .i64 x.f4, .int .i64 x.f5, .int .u32 x.f6, .int .u32 x.f7], 36), (w.heap.size, #[.int .i64 gen, .int .i64 next, .int .u64 upto, .slice (some ad) ps.length c], 25)]))
      case first =>
        go_region_with (first | (go_at_call 32; refine (bits_Fixed32.calls _ _ _ (show bits_Fixed32.f (x.f7) = some (fxb 4 (x.f7)) from rfl)).mono ?_; rintro e wf ⟨rfl, hbf⟩; have HE1 := Aside0.mk (HE.out.drew.grown hbf); clear hbf) | (go_at_call 31; refine (string_es w _ b _ (fxb 4 (x.f7)) HE1.out (by rw [fxb_len]; omega) HSz.out).mono ?_; rintro e wg ⟨rfl, he⟩; have HE2 := Aside0.mk he; clear he))
        all_goals (go_wp2_with fail; go_meet; case rel => exact HE2)
      obtain ⟨v7, rfl⟩ : ∃ x, x = wc := ⟨_, rfl⟩
      have he := hcut.out
      clear hcut
      clear y0 y1 y2 y3 y4 y5 y6 y7
      clear HE
      have HE := Aside0.mk he
      clear he
      rw [show (fxb 4 (x.f7)).data.toList = fb (x.f7) from rfl] at HE
      generalize hub7 : fb (x.f7) = b7 at HE uu
      have HU7 := Aside0.mk hub7
      clear hub7
      obtain ⟨y0, y1, y2, y3, y4, y5, y6, y7⟩ : v7.cell? ⟨vb, 0, none⟩ = some (.int .i64 x.f0) ∧ v7.cell? ⟨vb, 1, none⟩ = some (.int .u64 x.f1) ∧ v7.cell? ⟨vb, 2, none⟩ = some (.int .u64 x.f2) ∧ v7.cell? ⟨vb, 3, none⟩ = some (.int .i64 x.f3) ∧ v7.cell? ⟨vb, 4, none⟩ = some (.int .i64 x.f4) ∧ v7.cell? ⟨vb, 5, none⟩ = some (.int .i64 x.f5) ∧ v7.cell? ⟨vb, 6, none⟩ = some (.int .u32 x.f6) ∧ v7.cell? ⟨vb, 7, none⟩ = some (.int .u32 x.f7) := ⟨(blk_cell HE.out.one 0).trans rfl, (blk_cell HE.out.one 1).trans rfl, (blk_cell HE.out.one 2).trans rfl, (blk_cell HE.out.one 3).trans rfl, (blk_cell HE.out.one 4).trans rfl, (blk_cell HE.out.one 5).trans rfl, (blk_cell HE.out.one 6).trans rfl, (blk_cell HE.out.one 7).trans rfl⟩
      go_wp2
      go_roundw
      case rel => exact ⟨k + 1, by omega, by go_num, by rw [HN.out]; rfl, ⟨by rw [HP.out, ← List.append_assoc]; unfold wrN; rw [HU0.out, HU1.out, HU2.out, HU3.out, HU4.out, HU5.out, HU6.out, HU7.out]; simp only [List.append_assoc]; have h := HE.out; simp only [List.append_assoc] at h; exact h.less (fun t ht => List.mem_cons_of_mem _ ht)⟩⟩
      case measure => simp [intOf]; omega
    · obtain rfl : k = ps.length := by omega
      rw [List.take_length] at HE ⊢
      have hlen := ens_len (wr := wrN) (fun st x h => wrN_len st x) _ _ HO.out
      rw [← HY.out] at HE
      have hl8 : (ltN.data.toList ++ byN gen next upto ps).length ≤ 60 + 710 * 65536 := by rw [HY.out, List.length_append]; have := HL.out; omega
      have hl7 : ltN.data.toList ++ byN gen next upto ps ≠ [] := fun h => by have := congrArg List.length h; rw [List.length_append] at this; simp only [show ltN.data.toList.length = 8 from rfl, List.length_nil] at this; omega
      have HN7 := Aside0.mk hl7
      have HN8 : Aside0 ((ltN.data.toList ++ byN gen next upto ps).length ≤ 140737488355328) := ⟨by omega⟩
      clear hlen hl8 hl7
      go_wp2_with fail
      refine (sealed_any w _ b _ HE.out.bld HN7.out HN8.out HT.out).mono ?_
      rintro e w9 ⟨rfl, hb9⟩
      have HB9 := Aside0.mk hb9
      clear hb9
      go_wp2
      go_ret2
      exact ⟨rfl, HB9.out⟩
end Go.Proofs.YtejjidggnnhgjaaDoor.HImEm
/- What the statements of layer 12 call, each by one contract: twins, comparisons, the writers and readers of both sides. -/
set_option linter.unusedVariables false
set_option linter.unusedSimpArgs false
namespace Go.Proofs.YtejjidggnnhgjaaDoor.HImT
open Go.RowKit Go.Proofs.YtejjidggnnhgjaaDoor.PImg Go.Proofs.YtejjidggnnhgjaaDoor.HBase Go.Proofs.YtejjidggnnhgjaaDoor.HBlob Go.Proofs.YtejjidggnnhgjaaDoor.HSum Go.Proofs.YtejjidggnnhgjaaDoor.HCk Go.Proofs.YtejjidggnnhgjaaDoor.HImgW Go.Proofs.YtejjidggnnhgjaaDoor.HImgR Go.Proofs.YtejjidggnnhgjaaDoor.HImgO Go.Proofs.YtejjidggnnhgjaaDoor.HImP Go.Proofs.YtejjidggnnhgjaaDoor.HImD Go.Proofs.YtejjidggnnhgjaaDoor.HImE Go.Proofs.YtejjidggnnhgjaaDoor.HImF Go.Proofs.YtejjidggnnhgjaaDoor.HImK Go.Proofs.YtejjidggnnhgjaaDoor.HImKe Go.Proofs.YtejjidggnnhgjaaDoor.HImS Go.Proofs.YtejjidggnnhgjaaDoorW.PrintWords Go.Proofs.YtejjidggnnhgjaaDoorW.PrintLast Go.Proofs.YtejjidggnnhgjaaDoorW.PrintMore Go.Proofs.YtejjidggnnhgjaaDoor.HCore
/-! ### comparisons of what is the same -/
theorem sameD_l (ds : List SD) (hn : ds.length < 3518437208883) : ∀ (d i k : Nat), i + d = ds.length → d < k → stratalaw12_sameData.l0 k ds ds (i : Int) = some true := by
  intro d
  induction d with
  | zero =>
    intro i k hi hk
    obtain ⟨k, rfl⟩ : ∃ k', k = k' + 1 := ⟨k - 1, by omega⟩
    rw [stratalaw12_sameData.l0, if_neg (by omega)]
  | succ d ih =>
    intro i k hi hk
    obtain ⟨k, rfl⟩ : ∃ k', k = k' + 1 := ⟨k - 1, by omega⟩
    rw [stratalaw12_sameData.l0, if_pos (by omega), if_pos (by omega), if_pos (by omega), if_neg (by simp), wstep i (by omega)]
    exact ih (i + 1) k (by omega) (by omega)
theorem sameE_l (ds : List SE) (hn : ds.length < 4398046511104) : ∀ (d i k : Nat), i + d = ds.length → d < k → stratalaw12_sameGone.l0 k ds ds (i : Int) = some true := by
  intro d
  induction d with
  | zero =>
    intro i k hi hk
    obtain ⟨k, rfl⟩ : ∃ k', k = k' + 1 := ⟨k - 1, by omega⟩
    rw [stratalaw12_sameGone.l0, if_neg (by omega)]
  | succ d ih =>
    intro i k hi hk
    obtain ⟨k, rfl⟩ : ∃ k', k = k' + 1 := ⟨k - 1, by omega⟩
    rw [stratalaw12_sameGone.l0, if_pos (by omega), if_pos (by omega), if_pos (by omega), if_neg (by simp), wstep i (by omega)]
    exact ih (i + 1) k (by omega) (by omega)
theorem sameN_l (a b c a' b' c' : Int) (ds : List SN) (hn : ds.length < 2513169434916) : ∀ (d i k : Nat), i + d = ds.length → d < k → stratalaw12_sameManifest.l0 k (i : Int) a b c ds a' b' c' ds = some true := by
  intro d
  induction d with
  | zero =>
    intro i k hi hk
    obtain ⟨k, rfl⟩ : ∃ k', k = k' + 1 := ⟨k - 1, by omega⟩
    rw [stratalaw12_sameManifest.l0, if_neg (by omega)]
  | succ d ih =>
    intro i k hi hk
    obtain ⟨k, rfl⟩ : ∃ k', k = k' + 1 := ⟨k - 1, by omega⟩
    rw [stratalaw12_sameManifest.l0, if_pos (by omega), if_pos (by omega), if_pos (by omega), if_neg (by simp), wstep i (by omega)]
    exact ih (i + 1) k (by omega) (by omega)
theorem sameD_f (ds : List SD) (hn : ds.length < 3518437208883) : stratalaw12_sameData.f (ds.length + 1) ds ds = some true := by
  unfold stratalaw12_sameData.f
  rw [if_pos rfl]
  exact sameD_l ds hn ds.length 0 _ (by omega) (by omega)
theorem sameE_f (ds : List SE) (hn : ds.length < 4398046511104) : stratalaw12_sameGone.f (ds.length + 1) ds ds = some true := by
  unfold stratalaw12_sameGone.f
  rw [if_pos rfl]
  exact sameE_l ds hn ds.length 0 _ (by omega) (by omega)
theorem sameN_f (a b c : Int) (ds : List SN) (hn : ds.length < 2513169434916) : stratalaw12_sameManifest.f (ds.length + 2) a b c ds a b c ds = some true := by
  unfold stratalaw12_sameManifest.f
  rw [if_pos rfl, if_pos rfl, if_pos rfl, bne_self_eq_false, stratalaw12_sameManifest.j0, if_neg (by decide)]
  exact sameN_l a b c a b c ds hn ds.length 0 _ (by omega) (by omega)
theorem num_any (a : Int) (w : World) : Calls Tryd.prog 10 #[.int .i64 a] w fun e w' => e = .returned (.int .i64 a) ∧ w = w' := by
  go_enter Tryd.func10, Tryd.ntmps10
  go_wp2
  go_ret
  exact ⟨rfl, rfl⟩
theorem same_man (id lo hi : Int) (A : Option Addr) (n c : Nat) (ds : List SN) (B : Option Addr) (m d : Nat) (w : World)
    (hC : Kd.C k36 w A n ds) (hc : n ≤ c) (gC : Kd.C k36 w B m ds) (gc : m ≤ d) (hn : ds.length < 2513169434916) :
    Calls Tryd.prog 11 #[.agg #[.int .i64 id, .int .i64 lo, .int .u64 hi, .slice A n c], .agg #[.int .i64 id, .int .i64 lo, .int .u64 hi, .slice B m d]] w fun e w' => e = .returned (.bool true) ∧ Below w.heap.size w w' := by
  obtain rfl : n = ds.length := hC.1.symm
  obtain rfl : m = ds.length := gC.1.symm
  exact stratalaw12_sameManifest.calls _ id lo hi A c ds id lo hi B d ds true w hC hc gC gc (sameN_f id lo hi ds hn)
/-! ### twins -/
theorem twin_any (id lo hi gen : Int) (A : Option Addr) (n c : Nat) (ds : List SD) (A2 : Option Addr) (n2 c2 : Nat) (es : List SE) (w : World) (hC : Kd.C k58 w A n ds) (hc : n ≤ c) (hC2 : Kd.C k60 w A2 n2 es) (hc2 : n2 ≤ c2) (hn : ds.length < 3518437208883) (hm : es.length < 4398046511104) :
    Calls Tryd.prog 15 #[.agg #[.int .i64 id, .int .u64 lo, .int .u64 hi, .slice A n c, .int .i64 gen, .slice A2 n2 c2]] w fun e w' => ∃ (B : Option Addr) (d : Nat) (B2 : Option Addr) (d2 : Nat), e = .returned (.agg #[.int .i64 id, .int .u64 lo, .int .u64 hi, .slice B n d, .int .i64 gen, .slice B2 n2 d2]) ∧ Kd.R k58 58 w' w.heap.size (fun _ => True) (.slice B n d) ds ∧ Kd.R k60 60 w' w.heap.size (fun _ => True) (.slice B2 n2 d2) es ∧ Below w.heap.size w w' := by
  obtain rfl : n = ds.length := hC.1.symm
  obtain rfl : n2 = es.length := hC2.1.symm
  refine (stratalaw12_twin.calls id lo hi A c ds gen A2 c2 es id lo hi ds gen es w hC hc hC2 hc2 ?_).mono ?_
  · unfold stratalaw12_twin.f
    simp only [Option.bind_some, List.length_nil, List.nil_append]
    rw [if_pos (by omega), if_pos (by omega)]
  · rintro e w' ⟨v3, v5, rfl, h3, h5, hb⟩
    obtain ⟨B, d, rfl⟩ := Kd.R_slice h3
    obtain ⟨B2, d2, rfl⟩ := Kd.R_slice h5
    exact ⟨B, d, B2, d2, rfl, h3, h5, hb⟩
theorem twin_man (id lo hi : Int) (A : Option Addr) (n c : Nat) (ds : List SN) (w : World) (hC : Kd.C k36 w A n ds) (hc : n ≤ c) (hn : ds.length < 2513169434916) :
    Calls Tryd.prog 7 #[.agg #[.int .i64 id, .int .i64 lo, .int .u64 hi, .slice A n c]] w fun e w' => ∃ (B : Option Addr) (d : Nat), e = .returned (.agg #[.int .i64 id, .int .i64 lo, .int .u64 hi, .slice B n d]) ∧ Kd.R k36 36 w' w.heap.size (fun _ => True) (.slice B n d) ds ∧ Below w.heap.size w w' := by
  obtain rfl : n = ds.length := hC.1.symm
  refine (stratalaw12_twinManifest.calls id lo hi A c ds id lo hi ds w hC hc ?_).mono ?_
  · unfold stratalaw12_twinManifest.f
    simp only [Option.bind_some, List.length_nil, List.nil_append]
    rw [if_pos (by omega)]
  · rintro e w' ⟨v3, rfl, h3, hb⟩
    obtain ⟨B, d, rfl⟩ := Kd.R_slice h3
    exact ⟨B, d, rfl, h3, hb⟩
/-! ### the writers -/
def outD (id lo hi : Int) (ds : List SD) : ByteArray × Int := if gdD id lo hi ds = true then (fileOf ltD (byD id lo hi ds), 0) else ((⟨#[]⟩ : ByteArray), 2)
def outE (id gen : Int) (es : List SE) : ByteArray × Int := if gdE id gen es = true then (fileOf ltE (byE id gen es), 0) else ((⟨#[]⟩ : ByteArray), 2)
def outN (gen next upto : Int) (ps : List SN) : ByteArray × Int := if gdN gen next upto ps = true then (fileOf ltN (byN gen next upto ps), 0) else ((⟨#[]⟩ : ByteArray), 2)
section
variable (id lo hi gen : Int) (A : Option Addr) (n c : Nat) (ds : List SD) (A2 : Option Addr) (n2 c2 : Nat) (es : List SE) (w : World)
theorem encD_p (hC : Kd.C k58 w A n ds) (hc : n ≤ c) (hC2 : Kd.C k60 w A2 n2 es) (hc2 : n2 ≤ c2) (hT : Tab w) (h0 : 0 ≤ lo) (hn : ds.length < 3518437208883) :
    Calls Tryd.prog 23 #[.agg #[.int .i64 id, .int .u64 lo, .int .u64 hi, .slice A n c, .int .i64 gen, .slice A2 n2 c2]] w fun e w' => e = .returned (.tuple #[.string (outD id lo hi ds).1, .int .i64 (outD id lo hi ds).2]) ∧ Below w.heap.size w w' := by
  obtain rfl : n = ds.length := hC.1.symm
  obtain rfl : n2 = es.length := hC2.1.symm
  unfold outD
  have hg := goodD_f id lo hi gen ds es (by omega) (ds.length + 2) (Nat.le_refl _)
  by_cases h : gdD id lo hi ds = true
  · rw [if_pos h]
    rw [h] at hg
    exact HImEd.yes _ id lo hi gen A c ds A2 c2 es w hC hc hC2 hc2 hT hg h0 h
  · rw [if_neg h]
    rw [show gdD id lo hi ds = false by simpa using h] at hg
    exact HImEd.no _ id lo hi gen A c ds A2 c2 es w hC hc hC2 hc2 hg
theorem encE_p (hC : Kd.C k58 w A n ds) (hc : n ≤ c) (hC2 : Kd.C k60 w A2 n2 es) (hc2 : n2 ≤ c2) (hT : Tab w) (hn : es.length < 4398046511104) :
    Calls Tryd.prog 16 #[.agg #[.int .i64 id, .int .u64 lo, .int .u64 hi, .slice A n c, .int .i64 gen, .slice A2 n2 c2]] w fun e w' => e = .returned (.tuple #[.string (outE id gen es).1, .int .i64 (outE id gen es).2]) ∧ Below w.heap.size w w' := by
  obtain rfl : n = ds.length := hC.1.symm
  obtain rfl : n2 = es.length := hC2.1.symm
  unfold outE
  have hg := goodE_f id lo hi gen ds es (by omega) (es.length + 2) (Nat.le_refl _)
  by_cases h : gdE id gen es = true
  · rw [if_pos h]
    rw [h] at hg
    exact HImEe.yes _ id lo hi gen A c ds A2 c2 es w hC hc hC2 hc2 hT hg h
  · rw [if_neg h]
    rw [show gdE id gen es = false by simpa using h] at hg
    exact HImEe.no _ id lo hi gen A c ds A2 c2 es w hC hc hC2 hc2 hg
end
section
variable (gen next upto : Int) (A : Option Addr) (n c : Nat) (ps : List SN) (w : World)
theorem encN_p (hC : Kd.C k36 w A n ps) (hc : n ≤ c) (hr : ∀ x ∈ ps, (Lit.int .i64 x.f0).wf = true) (hT : Tab w) (hs : ∀ x ∈ ps, Su x) (h0 : 0 ≤ upto) (hn : ps.length < 2513169434916) :
    Calls Tryd.prog 8 #[.agg #[.int .i64 gen, .int .i64 next, .int .u64 upto, .slice A n c]] w fun e w' => e = .returned (.tuple #[.string (outN gen next upto ps).1, .int .i64 (outN gen next upto ps).2]) ∧ Below w.heap.size w w' := by
  obtain rfl : n = ps.length := hC.1.symm
  unfold outN
  by_cases h : gdN gen next upto ps = true
  · rw [if_pos h]
    exact HImEm.yes gen next upto A c ps w hC hc (by omega) hr hT hs h0 h
  · rw [if_neg h]
    exact HImEm.no gen next upto A c ps w hC hc (by omega) hr (by simpa using h)
end
/-! ### the readers -/
section
variable {b : ByteArray} {w : World}
theorem decD_p {id lo hi cd : Int} {ds : List SD} (hb : b.size ≤ 140737488355328) (hT : Tab w) (hv : HImDd.val b = (id, lo, hi, ds)) (hc : HImDd.code b = cd) :
    Calls Tryd.prog 25 #[.string b] w fun e w' => ∃ (A : Option Addr) (n c : Nat), e = .returned (.tuple #[.agg #[.int .i64 id, .int .u64 lo, .int .u64 hi, .slice A n c, .int .i64 0, .slice none 0 0], .int .i64 cd]) ∧ Kd.R k58 58 w' w.heap.size (fun _ => True) (.slice A n c) ds ∧ Below w.heap.size w w' := by
  refine (HImDd.dec_any (fun id lo hi l hl => ⟨_, goodD_f id lo hi 0 l [] (by omega) _ (Nat.le_refl _)⟩) b w hb hT).mono ?_
  rintro e w' ⟨u, rfl, hR, hB⟩
  obtain ⟨A, c, rfl⟩ := Kd.R_slice hR
  rw [hv] at hR ⊢
  rw [hc]
  exact ⟨A, _, c, rfl, hR, hB⟩
theorem decE_p {id gen cd : Int} {es : List SE} (hb : b.size ≤ 140737488355328) (hT : Tab w) (hv : HImDe.val b = (id, gen, es)) (hc : HImDe.code b = cd) :
    Calls Tryd.prog 20 #[.string b] w fun e w' => ∃ (A : Option Addr) (n c : Nat), e = .returned (.tuple #[.agg #[.int .i64 id, .int .u64 0, .int .u64 0, .slice none 0 0, .int .i64 gen, .slice A n c], .int .i64 cd]) ∧ Kd.R k60 60 w' w.heap.size (fun _ => True) (.slice A n c) es ∧ Below w.heap.size w w' := by
  refine (HImDe.dec_any (fun id gen l hl => ⟨_, goodE_f id 0 0 gen [] l (by omega) _ (Nat.le_refl _)⟩) b w hb hT).mono ?_
  rintro e w' ⟨u, rfl, hR, hB⟩
  obtain ⟨A, c, rfl⟩ := Kd.R_slice hR
  rw [hv] at hR ⊢
  rw [hc]
  exact ⟨A, _, c, rfl, hR, hB⟩
theorem decN_p {gen next upto cd : Int} {ps : List SN} (hb : b.size ≤ 140737488355328) (hT : Tab w) (hv : HImDm.val b = (gen, next, upto, ps)) (hc : HImDm.code b = cd) :
    Calls Tryd.prog 12 #[.string b] w fun e w' => ∃ (A : Option Addr) (n c : Nat), e = .returned (.tuple #[.agg #[.int .i64 gen, .int .i64 next, .int .u64 upto, .slice A n c], .int .i64 cd]) ∧ Kd.R k36 36 w' w.heap.size (fun _ => True) (.slice A n c) ps ∧ Below w.heap.size w w' := by
  refine (HImDm.dec_any b w hb hT).mono ?_
  rintro e w' ⟨u, rfl, hR, hB⟩
  obtain ⟨A, c, rfl⟩ := Kd.R_slice hR
  rw [hv] at hR ⊢
  rw [hc]
  exact ⟨A, _, c, rfl, hR, hB⟩
end
theorem rC {X : Type} {d : Kd X} {t : TypeId} {W : World} {base n c : Nat} {ok : Nat → Prop} {A : Option Addr} {xs : List X} (h : Kd.R d t W base ok (.slice A n c) xs) : Kd.C d W A n xs := by
  obtain ⟨rfl, _, h⟩ := Kd.R_reads' h
  exact h
theorem rN {X : Type} {d : Kd X} {t : TypeId} {W : World} {base n c : Nat} {ok : Nat → Prop} {A : Option Addr} {xs : List X} (h : Kd.R d t W base ok (.slice A n c) xs) : n ≤ c := (Kd.R_reads' h).2.1
end Go.Proofs.YtejjidggnnhgjaaDoor.HImT
/- A file of layer 12 that was laid down is opened and read back; with one byte turned it is not opened. Plain laws; and the walk of flipped. -/
set_option linter.unusedVariables false
set_option linter.unusedSimpArgs false
namespace Go.Proofs.YtejjidggnnhgjaaDoor.HImFl
open Go.RowKit Go.Proofs.YtejjidggnnhgjaaDoor.PImg Go.Proofs.YtejjidggnnhgjaaDoor.HBase Go.Proofs.YtejjidggnnhgjaaDoor.HBlob Go.Proofs.YtejjidggnnhgjaaDoor.HSum Go.Proofs.YtejjidggnnhgjaaDoor.HCk Go.Proofs.YtejjidggnnhgjaaDoor.HCrc Go.Proofs.YtejjidggnnhgjaaDoor.HImgW Go.Proofs.YtejjidggnnhgjaaDoor.HImgR Go.Proofs.YtejjidggnnhgjaaDoor.HImgO Go.Proofs.YtejjidggnnhgjaaDoor.HImP Go.Proofs.YtejjidggnnhgjaaDoor.HImD Go.Proofs.YtejjidggnnhgjaaDoor.HImE Go.Proofs.YtejjidggnnhgjaaDoor.HImF Go.Proofs.YtejjidggnnhgjaaDoor.HImT Go.Proofs.YtejjidggnnhgjaaDoorW.PrintWords Go.Proofs.YtejjidggnnhgjaaDoorW.PrintLast Go.Proofs.YtejjidggnnhgjaaDoorW.PrintMore Go.Proofs.YtejjidggnnhgjaaDoor.HCore
theorem u8_eq {a b : UInt8} (h : a.toNat = b.toNat) : a = b := UInt8.toNat_inj.1 h
theorem ext_one (c : Nat) (hc : c < 2 ^ 32) (pre post : List UInt8) (x y : UInt8) (h : ext c (pre ++ x :: post) = ext c (pre ++ y :: post)) : x = y := by
  unfold ext at h
  have h1 := xor_cancel_left h
  rw [crc_append, crc_append] at h1
  have hr : crc (4294967295 ^^^ c) pre < 2 ^ 32 := crc_lt pre (Nat.xor_lt_two_pow (by decide) hc)
  generalize crc (4294967295 ^^^ c) pre = r at h1 hr
  have hx : x.toNat < 2 ^ 32 := Nat.lt_of_lt_of_le x.toNat_lt (by decide)
  have hy : y.toNat < 2 ^ 32 := Nat.lt_of_lt_of_le y.toNat_lt (by decide)
  have h2 : crc (dn8 (r ^^^ x.toNat)) post = crc (dn8 (r ^^^ y.toNat)) post := h1
  have h3 := crc_inj post (dn8_lt (Nat.xor_lt_two_pow hr hx)) (dn8_lt (Nat.xor_lt_two_pow hr hy)) h2
  have h4 := dn8_inj (Nat.xor_lt_two_pow hr hx) (Nat.xor_lt_two_pow hr hy) h3
  exact u8_eq (xor_cancel_left h4)
theorem ck_set (s t : ByteArray) (i : Nat) (y : UInt8) (hi : i < s.data.toList.length) (ht : t.data.toList = s.data.toList.set i y) (h : ck t = ck s) : s.data.toList[i] = y := by
  unfold ck at h
  have h1 : ext 0 t.data.toList = ext 0 s.data.toList := by omega
  rw [ht] at h1
  have e1 : s.data.toList.set i y = s.data.toList.take i ++ y :: s.data.toList.drop (i + 1) := by rw [List.set_eq_take_append_cons_drop, if_pos hi]
  have e2 : s.data.toList = s.data.toList.take i ++ s.data.toList[i] :: s.data.toList.drop (i + 1) := by
    rw [List.getElem_cons_drop, List.take_append_drop]
  rw [e1] at h1
  have h2 : ext 0 (s.data.toList.take i ++ y :: s.data.toList.drop (i + 1)) = ext 0 (s.data.toList.take i ++ s.data.toList[i] :: s.data.toList.drop (i + 1)) := by rw [← e2]; exact h1
  exact (ext_one 0 (by decide) _ _ _ _ h2).symm
theorem fxb_inj {v u : Int} (hv : 0 ≤ v ∧ v < 4294967296) (hu : 0 ≤ u ∧ u < 4294967296) (h : fxb 4 v = fxb 4 u) : v = u := by
  have e1 := rfix_back ⟨#[]⟩ ⟨#[]⟩ 4 v hv
  have e2 := rfix_back ⟨#[]⟩ ⟨#[]⟩ 4 u hu
  rw [h, e2] at e1
  exact (Prod.mk.inj e1).1.symm
theorem opn_zero {b lt : ByteArray} (hl : lt.size = 8) : opn b lt = 0 ↔ 12 ≤ b.size ∧ b.data.toList.take 8 = lt.data.toList ∧ (fxb 4 (ck (b.extract 0 (b.size - 4)))).data.toList = b.data.toList.drop (b.size - 4) := by
  have hdrop : (b.extract (b.size - 4) b.size).data.toList = b.data.toList.drop (b.size - 4) := by
    rw [extract_list]
    exact List.take_of_length_le (by rw [List.length_drop, size_list]; omega)
  unfold opn
  by_cases h1 : b.size < 12
  · rw [if_pos h1]
    exact ⟨fun h => absurd h (by decide), fun h => by omega⟩
  rw [if_neg h1, pre_iff b lt (by omega) hl]
  have e8 : (b.extract 0 8).data.toList = b.data.toList.take 8 := by rw [extract_list, List.drop_zero, Nat.sub_zero]
  by_cases h2 : b.data.toList.take 8 = lt.data.toList
  · have e2 : ((b.extract 0 8).toList == lt.toList) = true := by rw [toList_data, toList_data, e8, beq_iff_eq]; exact h2
    rw [e2, if_neg (by decide), toList_data, toList_data, hdrop]
    by_cases h3 : (fxb 4 (ck (b.extract 0 (b.size - 4)))).data.toList = b.data.toList.drop (b.size - 4)
    · rw [if_pos h3]; exact ⟨fun _ => ⟨by omega, h2, h3⟩, fun _ => rfl⟩
    · rw [if_neg h3]; exact ⟨fun h => absurd h (by decide), fun h => absurd h.2.2 h3⟩
  · have e2 : ((b.extract 0 8).toList == lt.toList) = false := by rw [toList_data, toList_data, e8, beq_eq_false_iff_ne]; exact h2
    rw [e2, if_pos rfl]
    exact ⟨fun h => absurd h (by decide), fun h => absurd h.2.1 h2⟩
theorem ck_of {a b : ByteArray} (h : a.data.toList = b.data.toList) : ck a = ck b := by unfold ck; rw [h]
theorem file_size (lt : ByteArray) (l : List UInt8) (hl : lt.size = 8) : (fileOf lt l).size = 12 + l.length := by
  unfold fileOf
  rw [← size_list, append_list, List.length_append, size_list (fxb 4 _), fxb_len]
  show (lt.data.toList ++ l).length + 4 = _
  rw [List.length_append, size_list]
  omega
theorem file_list (lt : ByteArray) (l : List UInt8) : (fileOf lt l).data.toList = (lt.data.toList ++ l) ++ (fxb 4 (ck ⟨(lt.data.toList ++ l).toArray⟩)).data.toList := by
  unfold fileOf
  rw [append_list]
theorem opn_file (lt : ByteArray) (l : List UInt8) (hl : lt.size = 8) : opn (fileOf lt l) lt = 0 := by
  have hz := file_size lt l hl
  have hf := file_list lt l
  have hll : (lt.data.toList ++ l).length = 8 + l.length := by rw [List.length_append, size_list]; omega
  have h8 : lt.data.toList.length = 8 := by rw [size_list]; omega
  refine (opn_zero hl).2 ⟨by omega, ?_, ?_⟩
  · rw [hf, List.append_assoc, List.take_append_of_le_length (by omega), List.take_of_length_le (by omega)]
  · have e1 : (fileOf lt l).size - 4 = 8 + l.length := by omega
    rw [e1, hf]
    have e2 : ck ((fileOf lt l).extract 0 (8 + l.length)) = ck ⟨(lt.data.toList ++ l).toArray⟩ := by
      apply ck_of
      rw [extract_list, List.drop_zero, Nat.sub_zero, hf, List.take_append_of_le_length (by omega), List.take_of_length_le (by omega)]
    rw [e2, List.drop_append_of_le_length (by omega), List.drop_of_length_le (by omega), List.nil_append]
theorem ins_file (lt : ByteArray) (l : List UInt8) (hl : lt.size = 8) : (ins (fileOf lt l)).data.toList = l := by
  have hz := file_size lt l hl
  have hf := file_list lt l
  have h8 : lt.data.toList.length = 8 := by rw [size_list]; omega
  rw [ins_eq _ (by omega), extract_list, hf, show (fileOf lt l).size - 4 - 8 = l.length by omega, List.append_assoc, List.drop_append_of_le_length (by omega), List.drop_of_length_le (by omega), List.nil_append, List.take_append_of_le_length (Nat.le_refl _), List.take_length]
/-- With one byte turned it is not opened. -/
theorem opn_flip {s t lt : ByteArray} (hl : lt.size = 8) (ho : opn s lt = 0) (i : Nat) (y : UInt8) (hi : i < s.data.toList.length) (ht : t.data.toList = s.data.toList.set i y) (hy : s.data.toList[i] ≠ y) : opn t lt ≠ 0 := by
  intro h
  obtain ⟨s1, s2, s3⟩ := (opn_zero hl).1 ho
  obtain ⟨t1, t2, t3⟩ := (opn_zero hl).1 h
  have hz : t.size = s.size := by rw [← size_list, ht, List.length_set, size_list]
  rw [size_list] at hi
  rw [hz, ht] at t3
  rw [ht] at t2
  have hget : ∀ (k : Nat) (h1 : k < s.data.toList.length), s.data.toList[k]? = some s.data.toList[k] := fun k h1 => List.getElem?_eq_getElem h1
  have hset : (s.data.toList.set i y)[i]? = some y := by rw [List.getElem?_set_self (by rw [size_list]; exact hi)]
  have hold : s.data.toList[i]? = some (s.data.toList[i]'(by rw [size_list]; exact hi)) := hget i _
  have es : (s.extract 0 (s.size - 4)).data.toList = s.data.toList.take (s.size - 4) := by rw [extract_list, List.drop_zero, Nat.sub_zero]
  have et : (t.extract 0 (s.size - 4)).data.toList = (s.data.toList.set i y).take (s.size - 4) := by rw [extract_list, List.drop_zero, Nat.sub_zero, ht]
  by_cases h8 : i < 8
  · have e := congrArg (fun l => l[i]?) (t2.trans s2.symm)
    simp only [List.getElem?_take_of_lt h8] at e
    rw [hset, hold] at e
    exact hy (Option.some.inj e).symm
  by_cases h4 : i < s.size - 4
  · have e3 : (s.data.toList.set i y).drop (s.size - 4) = s.data.toList.drop (s.size - 4) := List.drop_set_of_lt h4
    rw [e3, ← s3] at t3
    have e4 := fxb_inj ⟨(ck_rng _).1, by have := (ck_rng (t.extract 0 (s.size - 4))).2; omega⟩ ⟨(ck_rng _).1, by have := (ck_rng (s.extract 0 (s.size - 4))).2; omega⟩ (ba_ext t3)
    have hlt : i < (s.extract 0 (s.size - 4)).data.toList.length := by rw [es, List.length_take, size_list]; omega
    have e5 := ck_set _ _ i y hlt (by rw [et, es, List.take_set]) e4
    have e6 : (s.extract 0 (s.size - 4)).data.toList[i] = s.data.toList[i]'(by rw [size_list]; exact hi) := by
      have : (s.extract 0 (s.size - 4)).data.toList[i]? = s.data.toList[i]? := by rw [es, List.getElem?_take_of_lt h4]
      rw [List.getElem?_eq_getElem hlt, hold] at this
      exact Option.some.inj this
    rw [e6] at e5
    exact hy e5
  · have e4 : ck (t.extract 0 (s.size - 4)) = ck (s.extract 0 (s.size - 4)) := by
      apply ck_of
      rw [et, es, List.take_set_of_le (by omega)]
    rw [e4, s3] at t3
    have e := congrArg (fun l => l[i - (s.size - 4)]?) t3
    simp only [List.getElem?_drop] at e
    rw [show s.size - 4 + (i - (s.size - 4)) = i by omega, hset, hold] at e
    exact hy (Option.some.inj e)
/-! ### what was laid down is read back -/
theorem backD {id lo hi : Int} {ds : List SD} (h0 : 0 ≤ lo) (hg : gdD id lo hi ds = true) : HImDd.val (fileOf ltD (byD id lo hi ds)) = (id, lo, hi, ds) ∧ HImDd.code (fileOf ltD (byD id lo hi ds)) = 0 := by
  have hi2 := ins_file ltD (byD id lo hi ds) rfl
  obtain ⟨q, h1, h2⟩ := dcD_fwd (s := ins (fileOf ltD (byD id lo hi ds))) (t := []) h0 hg (by rw [List.append_nil]; exact hi2)
  exact HImDd.some_val (opn_file _ _ rfl) h1 (h2.end_iff.2 rfl)
theorem backE {id gen : Int} {es : List SE} (hg : gdE id gen es = true) : HImDe.val (fileOf ltE (byE id gen es)) = (id, gen, es) ∧ HImDe.code (fileOf ltE (byE id gen es)) = 0 := by
  have hi2 := ins_file ltE (byE id gen es) rfl
  obtain ⟨q, h1, h2⟩ := dcE_fwd (s := ins (fileOf ltE (byE id gen es))) (t := []) hg (by rw [List.append_nil]; exact hi2)
  exact HImDe.some_val (opn_file _ _ rfl) h1 (h2.end_iff.2 rfl)
theorem backN {gen next upto : Int} {ps : List SN} (hs : ∀ x ∈ ps, Su x) (h0 : 0 ≤ upto) (hg : gdN gen next upto ps = true) : HImDm.val (fileOf ltN (byN gen next upto ps)) = (gen, next, upto, ps) ∧ HImDm.code (fileOf ltN (byN gen next upto ps)) = 0 := by
  have hi2 := ins_file ltN (byN gen next upto ps) rfl
  obtain ⟨q, h1, h2⟩ := dcN_fwd (s := ins (fileOf ltN (byN gen next upto ps))) (t := []) hs h0 hg (by rw [List.append_nil]; exact hi2)
  exact HImDm.some_val (opn_file _ _ rfl) h1 (h2.end_iff.2 rfl)
theorem codeD_no {b : ByteArray} (h : opn b ltD ≠ 0) : HImDd.code b ≠ 0 := by rw [(HImDd.out_val h).2]; exact h
theorem codeE_no {b : ByteArray} (h : opn b ltE ≠ 0) : HImDe.code b ≠ 0 := by rw [(HImDe.out_val h).2]; exact h
theorem codeN_no {b : ByteArray} (h : opn b ltN ≠ 0) : HImDm.code b ≠ 0 := by rw [(HImDm.out_val h).2]; exact h
end Go.Proofs.YtejjidggnnhgjaaDoor.HImFl
/- flipped, of layer 12's statements, walked. -/
set_option linter.unusedVariables false
set_option linter.unusedSimpArgs false
namespace Go.Proofs.YtejjidggnnhgjaaDoor.HImFp
open Go.RowKit Go.Proofs.YtejjidggnnhgjaaDoor.PImg Go.Proofs.YtejjidggnnhgjaaDoor.HImFl Go.Proofs.YtejjidggnnhgjaaDoorW.PrintWords Go.Proofs.YtejjidggnnhgjaaDoorW.PrintLast Go.Proofs.YtejjidggnnhgjaaDoorW.PrintMore Go.Proofs.YtejjidggnnhgjaaDoor.HCore
theorem xor_u8 (y : UInt8) (x : Int) (hx : 0 ≤ x ∧ x ≤ 255) : (y ^^^ UInt8.ofNat x.toNat).toNat = y.toNat ^^^ x.toNat := by
  rw [UInt8.toNat_xor, UInt8.toNat_ofNat_of_lt' (by show x.toNat < 256; omega)]
theorem xor8 (a b : Nat) (ha : a < 256) (hb : b < 256) : Go.bits .xor .u8 (a : Int) (b : Int) = ((a ^^^ b : Nat) : Int) := by
  have := u8_xor (a : Int) (b : Int) (by omega) (by omega) (by omega) (by omega)
  simpa using this
def Fp (w : World) (s : ByteArray) (a x : Int) (e : Ending) (w' : World) : Prop :=
  ∃ (t : ByteArray) (i : Nat) (hi : i < s.data.toList.length), e = .returned (.string t) ∧ t.data.toList = s.data.toList.set i (s.data.toList[i] ^^^ UInt8.ofNat x.toNat) ∧ Below w.heap.size w w'
set_option maxRecDepth 100000 in
set_option maxHeartbeats 4000000 in
theorem flip_any (s : ByteArray) (a x : Int) (w : World) (hs : 0 < s.size) (hl : s.size ≤ 140737488355328) (ha : 0 ≤ a ∧ a ≤ 18446744073709551615) (hx : 0 ≤ x ∧ x ≤ 255) :
    Calls Tryd.prog 59 #[.string s, .int .u64 a, .int .u8 x] w (Fp w s a x) := by
  obtain ⟨i, hi⟩ : ∃ i : Nat, a % (s.size : Int) = (i : Int) := ⟨(a % (s.size : Int)).toNat, (Int.toNat_of_nonneg (Int.emod_nonneg _ (by omega))).symm⟩
  have hlt : i < s.size := by have := Int.emod_lt_of_pos a (show (0 : Int) < s.size by omega); omega
  have kc : ∀ W : World, (convert 9 72 (.string s)).run Tryd.prog W = .ok (.slice (some ⟨W.heap.size, 0, none⟩) s.size (grownCap W s.size 0 5)) (Lib.bytesWorld W 5 s) := fun W => Lib.run_convert_string_bytes W 9 72 5 s Tryd.underlying9 Tryd.underlying72 Tryd.underlying5
  have a1 := ha.1
  have a2 := ha.2
  have x1 := hx.1
  have x2 := hx.2
  have i0 : (0 : Int) ≤ (i : Int) := by omega
  have i1 : (i : Int) < (s.size : Int) := by omega
  have hc := Lib.bytesWorld_cell w 5 s i hlt
  have hf : (Lib.bytesWorld w 5 s).frozen? ⟨w.heap.size, i, none⟩ = false := by
    simp only [World.frozen?, Lib.bytesWorld_at_new]
    simp [Lib.bytesCells]
    omega
  have hil : i < s.data.toList.length := by rw [size_list]; exact hlt
  obtain ⟨V, hV⟩ : ∃ V, V = Go.bits .xor .u8 ((s.data[i]'hlt).toNat : Int) x := ⟨_, rfl⟩
  have hVn : UInt8.ofNat V.toNat = s.data.toList[i] ^^^ UInt8.ofNat x.toNat := by
    have e1 := xor8 ((s.data[i]'hlt).toNat) x.toNat (by have := (s.data[i]'hlt).toNat_lt; omega) (by omega)
    rw [Int.toNat_of_nonneg hx.1] at e1
    rw [hV, e1, Int.toNat_natCast]
    apply u8_eq
    have hy := (s.data[i]'hlt).toNat_lt
    rw [UInt8.toNat_ofNat_of_lt' (Nat.xor_lt_two_pow (n := 8) hy (by omega)), xor_u8 _ _ hx]
    rfl
  have hcells : ∀ j, j < s.size → ((Lib.bytesWorld w 5 s).setCell ⟨w.heap.size, i, none⟩ (.int .u8 V)).cell? ⟨w.heap.size, 0 + j, none⟩ = some (.int .u8 (((s.data.toList.map fun b => (b.toNat : Int)).set i V).getD j 0)) := by
    intro j hj
    rw [Nat.zero_add]
    by_cases e : j = i
    · subst e
      rw [World.cell?_setCell_same _ _ _ (Lib.bytesWorld_cell w 5 s j hj), List.getD_eq_getElem?_getD, List.getElem?_set_self (by rw [List.length_map]; exact hil), Option.getD_some]
    · rw [World.cell?_setCell_other _ _ _ _ (fun h => e (by injection h with _ h _; exact h.symm)), Lib.bytesWorld_cell w 5 s j hj, List.getD_eq_getElem?_getD, List.getD_eq_getElem?_getD, List.getElem?_set_ne (fun h => e h.symm), List.getElem?_map]
      have hjl : j < s.data.toList.length := by rw [size_list]; exact hj
      rw [List.getElem?_eq_getElem hjl]
      rfl
  have kd : (convert 72 9 (.slice (some ⟨w.heap.size, 0, none⟩) s.size (grownCap w s.size 0 5))).run Tryd.prog ((Lib.bytesWorld w 5 s).setCell ⟨w.heap.size, i, none⟩ (.int .u8 V)) = .ok (.string (strOfNums ((s.data.toList.map fun b => (b.toNat : Int)).set i V))) ((Lib.bytesWorld w 5 s).setCell ⟨w.heap.size, i, none⟩ (.int .u8 V)) :=
    run_convert_bytes_arg _ 72 5 Tryd.underlying72 Tryd.underlying5 w.heap.size 0 s.size _ _ (by rw [List.length_set, List.length_map, size_list]) hcells 9 Tryd.underlying9
  have hres : (strOfNums ((s.data.toList.map fun b => (b.toNat : Int)).set i V)).data.toList = s.data.toList.set i (s.data.toList[i] ^^^ UInt8.ofNat x.toNat) := by
    rw [strOfNums_data, ← hVn, List.map_set]
    congr 1
    rw [List.map_map]
    conv => rhs; rw [← List.map_id s.data.toList]
    apply List.map_congr_left
    intro b _
    simp
  have hbel : Below w.heap.size w ((Lib.bytesWorld w 5 s).setCell ⟨w.heap.size, i, none⟩ (.int .u8 V)) := (bytes_below (Below.refl _ _) (Nat.le_refl _) 5 s).setCell (p := ⟨w.heap.size, i, none⟩) (Nat.le_refl _) _
  generalize strOfNums ((s.data.toList.map fun b => (b.toNat : Int)).set i V) = t at kd hres
  have HF : Aside0 (Fp w s a x (.returned (.string t)) ((Lib.bytesWorld w 5 s).setCell ⟨w.heap.size, i, none⟩ (.int .u8 V))) := ⟨t, i, hil, rfl, hres, hbel⟩
  clear hres hbel hcells hVn hil
  rw [hV] at kd HF
  clear hV
  obtain ⟨w1, hw1⟩ : ∃ w1, w1 = Lib.bytesWorld w 5 s := ⟨_, rfl⟩
  rw [← hw1] at kd HF hc hf
  have kc2 : (convert 9 72 (.string s)).run Tryd.prog w = .ok (.slice (some ⟨w.heap.size, 0, none⟩) s.size (grownCap w s.size 0 5)) w1 := by rw [hw1]; exact kc w
  clear kc hw1
  go_enter Tryd.func59, Tryd.ntmps59
  go_wp2
  go_ret
  exact HF.out
end Go.Proofs.YtejjidggnnhgjaaDoor.HImFp
/- The kinds of the parameters of layer 12's statements, whole. -/
set_option linter.unusedVariables false
namespace Go.Proofs.YtejjidggnnhgjaaDoor.HKinds
open Go.RowKit Go.Proofs.YtejjidggnnhgjaaDoor.PImg Go.Proofs.YtejjidggnnhgjaaDoorW.PrintWords Go.Proofs.YtejjidggnnhgjaaDoorW.PrintLast
abbrev S58 := PImg.S58
abbrev S60 := PImg.S60
abbrev S36 := PImg.S36
structure S46 where
  f0 : Int
  f1 : Int
  f2 : Int
  f3 : List S58
  f4 : Int
  f5 : List S60
def k46 : Kd S46 := Kd.iso (Kd.pair (Kd.int .i64) (Kd.pair (Kd.int .u64) (Kd.pair (Kd.int .u64) (Kd.pair (Kd.slice 58 PImg.k58) (Kd.pair (Kd.int .i64) (Kd.slice 60 PImg.k60)))))) (fun x : S46 => (x.f0, x.f1, x.f2, x.f3, x.f4, x.f5))
structure S25 where
  f0 : Int
  f1 : Int
  f2 : Int
  f3 : List S36
def k25 : Kd S25 := Kd.iso (Kd.pair (Kd.int .i64) (Kd.pair (Kd.int .i64) (Kd.pair (Kd.int .u64) (Kd.slice 36 PImg.k36)))) (fun x : S25 => (x.f0, x.f1, x.f2, x.f3))
theorem pair_open {W : World} {x : S46} {cs : Array Value} (h : k46.K W x cs.toList) : ∃ (A : Option Addr) (c : Nat) (A2 : Option Addr) (c2 : Nat), cs = #[.int .i64 x.f0, .int .u64 x.f1, .int .u64 x.f2, .slice A x.f3.length c, .int .i64 x.f4, .slice A2 x.f5.length c2] ∧ x.f3.length ≤ c ∧ Kd.C PImg.k58 W A x.f3.length x.f3 ∧ x.f5.length ≤ c2 ∧ Kd.C PImg.k60 W A2 x.f5.length x.f5 := by
  obtain ⟨_, _, e, rfl, _, _, rfl, rfl, _, _, rfl, rfl, _, _, rfl, ⟨A, c, rfl, hc, hC⟩, _, _, rfl, rfl, ⟨A2, c2, rfl, hc2, hC2⟩⟩ := h
  refine ⟨A, c, A2, c2, ?_, hc, hC, hc2, hC2⟩
  apply Array.toList_inj.1
  rw [e]
  rfl
theorem man_open {W : World} {x : S25} {cs : Array Value} (h : k25.K W x cs.toList) : ∃ (A : Option Addr) (c : Nat), cs = #[.int .i64 x.f0, .int .i64 x.f1, .int .u64 x.f2, .slice A x.f3.length c] ∧ x.f3.length ≤ c ∧ Kd.C PImg.k36 W A x.f3.length x.f3 := by
  obtain ⟨_, _, e, rfl, _, _, rfl, rfl, _, _, rfl, rfl, ⟨A, c, rfl, hc, hC⟩⟩ := h
  refine ⟨A, c, ?_, hc, hC⟩
  apply Array.toList_inj.1
  rw [e]
  rfl
end Go.Proofs.YtejjidggnnhgjaaDoor.HKinds
/- tells and ImageTells of layer 12's statements, walked. -/
set_option linter.unusedVariables false
set_option linter.unusedSimpArgs false
namespace Go.Proofs.YtejjidggnnhgjaaDoor.HImTl
open Go.RowKit Go.Proofs.YtejjidggnnhgjaaDoor.PImg Go.Proofs.YtejjidggnnhgjaaDoor.HBase Go.Proofs.YtejjidggnnhgjaaDoor.HSum Go.Proofs.YtejjidggnnhgjaaDoor.HCk Go.Proofs.YtejjidggnnhgjaaDoor.HImgR Go.Proofs.YtejjidggnnhgjaaDoor.HImP Go.Proofs.YtejjidggnnhgjaaDoor.HImD Go.Proofs.YtejjidggnnhgjaaDoor.HImE Go.Proofs.YtejjidggnnhgjaaDoor.HImT Go.Proofs.YtejjidggnnhgjaaDoor.HImFl Go.Proofs.YtejjidggnnhgjaaDoor.HImFp Go.Proofs.YtejjidggnnhgjaaDoorW.PrintWords Go.Proofs.YtejjidggnnhgjaaDoorW.PrintLast Go.Proofs.YtejjidggnnhgjaaDoorW.PrintMore Go.Proofs.YtejjidggnnhgjaaDoor.HCore
theorem sizeD {id lo hi : Int} {ds : List SD} (h : gdD id lo hi ds = true) : (fileOf ltD (byD id lo hi ds)).size ≤ 100000000 := by
  obtain ⟨⟨g1, g2, g3, g4, g5⟩, g6⟩ := gdD_parts h
  rw [file_size _ _ rfl]
  unfold byD
  simp only [List.length_append]
  have a1 := ub_len id
  have a2 := ub_len lo
  have a3 := ub_len (hi - lo)
  have a4 := ub_len (ds.length : Int)
  have a5 := ens_len (wr := wrD) (nx := nxD) (ok := (okD hi)) (fun st x h => wrD_len h) ds lo g6
  omega
theorem sizeE {id gen : Int} {es : List SE} (h : gdE id gen es = true) : (fileOf ltE (byE id gen es)).size ≤ 100000000 := by
  obtain ⟨⟨g1, g2, g3, g4, g5, g7⟩, g6⟩ := gdE_parts h
  rw [file_size _ _ rfl]
  unfold byE
  simp only [List.length_append]
  have a1 := ub_len id
  have a2 := ub_len gen
  have a4 := ub_len (es.length : Int)
  have a5 := ens_len (wr := wrE) (nx := nxE) (ok := okE) (fun st x h => wrE_len h) es 0 g6
  omega
theorem sizeN {gen next upto : Int} {ps : List SN} (hs : ∀ x ∈ ps, Su x) (h : gdN gen next upto ps = true) : (fileOf ltN (byN gen next upto ps)).size ≤ 100000000 := by
  obtain ⟨⟨g1, g2, g3, g4, g5, g7⟩, g6⟩ := gdN_parts hs h
  rw [file_size _ _ rfl]
  unfold byN
  simp only [List.length_append]
  have a1 := ub_len gen
  have a2 := ub_len next
  have a3 := ub_len upto
  have a4 := ub_len (ps.length : Int)
  have a5 := ens_len (wr := wrN) (nx := nxN) (ok := okN) (fun st x _ => wrN_len st x) ps 0 g6
  omega
theorem ne_of_size {s : ByteArray} (h : 12 ≤ s.size) : s.toList.isEmpty = false := by
  rw [toList_data]
  cases h1 : s.data.toList with
  | nil => rw [← size_list, h1] at h; exact absurd h (by decide)
  | cons _ _ => rfl
theorem same_data (A : Option Addr) (n c : Nat) (ds : List SD) (B : Option Addr) (m d : Nat) (w : World) (hC : Kd.C k58 w A n ds) (hc : n ≤ c) (gC : Kd.C k58 w B m ds) (gc : m ≤ d) (hn : ds.length < 3518437208883) :
    Calls Tryd.prog 51 #[.slice A n c, .slice B m d] w fun e w' => e = .returned (.bool true) ∧ Below w.heap.size w w' := by
  obtain rfl : n = ds.length := hC.1.symm
  obtain rfl : m = ds.length := gC.1.symm
  exact (stratalaw12_sameData.calls _ A c ds B d ds true w hC hc gC gc (sameD_f ds hn)).mono fun _ _ h => ⟨h.1, h.2.below⟩
theorem same_gone (A : Option Addr) (n c : Nat) (ds : List SE) (B : Option Addr) (m d : Nat) (w : World) (hC : Kd.C k60 w A n ds) (hc : n ≤ c) (gC : Kd.C k60 w B m ds) (gc : m ≤ d) (hn : ds.length < 4398046511104) :
    Calls Tryd.prog 52 #[.slice A n c, .slice B m d] w fun e w' => e = .returned (.bool true) ∧ Below w.heap.size w w' := by
  obtain rfl : n = ds.length := hC.1.symm
  obtain rfl : m = ds.length := gC.1.symm
  exact (stratalaw12_sameGone.calls _ A c ds B d ds true w hC hc gC gc (sameE_f ds hn)).mono fun _ _ h => ⟨h.1, h.2.below⟩
/-- A turned text: as long, and not opened. -/
theorem turned {s : ByteArray} {a x : Int} {w w' : World} {e : Ending} (h : Fp w s a x e w') (hx : 0 ≤ x ∧ x ≤ 255) : ∃ t : ByteArray, e = .returned (.string t) ∧ t.size = s.size ∧ Below w.heap.size w w' ∧ ∀ lt : ByteArray, lt.size = 8 → opn s lt = 0 → x ≠ 0 → opn t lt ≠ 0 := by
  obtain ⟨t, i, hi, rfl, ht, hb⟩ := h
  refine ⟨t, rfl, by rw [← size_list, ht, List.length_set, size_list], hb, fun lt hl ho hx0 => opn_flip hl ho i _ hi ht (fun he => ?_)⟩
  have h1 := congrArg UInt8.toNat he
  rw [xor_u8 _ _ hx] at h1
  have h2 : s.data.toList[i].toNat ^^^ x.toNat = s.data.toList[i].toNat ^^^ 0 := by rw [← h1, Nat.xor_zero]
  have h3 := HCrc.xor_cancel_left h2
  omega
/-- The parameters' boxes. -/
structure Ts (w : World) (cp cm : Array Value) (W : World) : Prop where
  bel : Below w.heap.size w W
  bp : W.heap[w.heap.size]? = some (.cells cp 46 (0, 0))
  bm : W.heap[w.heap.size + 1]? = some (.cells cm 25 (0, 0))
theorem Ts.step {w W W' : World} {cp cm : Array Value} (h : Ts w cp cm W) (hb : Below W.heap.size W W') : Ts w cp cm W' :=
  ⟨below_step h.bel hb, blk_below h.bp hb, blk_below h.bm hb⟩
theorem Ts.alloc {w W : World} {cp cm : Array Value} (h : Ts w cp cm W) (o : Obj) : Ts w cp cm (W.alloc o) := h.step (below_alloc (Below.refl _ _) o)
/-- What was laid down, of a file's text. -/
structure FaD (sv : ByteArray) (id lo hi : Int) (ds : List SD) : Prop where
  val : HImDd.val sv = (id, lo, hi, ds)
  code : HImDd.code sv = 0
  opn : opn sv ltD = 0
  size : 12 ≤ sv.size ∧ sv.size ≤ 100000000
theorem faD {sv : ByteArray} {id lo hi : Int} {ds : List SD} (h0 : 0 ≤ lo) (g : gdD id lo hi ds = true) (hf : sv = fileOf ltD (byD id lo hi ds)) : FaD sv id lo hi ds := by
  subst hf
  exact ⟨(backD h0 g).1, (backD h0 g).2, opn_file _ _ rfl, by rw [file_size _ _ rfl]; omega, sizeD g⟩
theorem caseD {id lo hi : Int} {ds : List SD} {sv : ByteArray} {sc : Int} {must : Bool} (e : outD id lo hi ds = (sv, sc)) (hm : must = true → gdD id lo hi ds = true) : (gdD id lo hi ds = true ∧ sv = fileOf ltD (byD id lo hi ds) ∧ sc = 0) ∨ (must = false ∧ sc = 2) := by
  unfold outD at e
  by_cases h : gdD id lo hi ds = true
  · rw [if_pos h] at e
    obtain ⟨e1, e2⟩ := Prod.mk.inj e
    exact Or.inl ⟨h, e1.symm, e2.symm⟩
  · rw [if_neg h] at e
    obtain ⟨e1, e2⟩ := Prod.mk.inj e
    refine Or.inr ⟨?_, e2.symm⟩
    cases hmm : must with
    | false => rfl
    | true => exact absurd (hm hmm) h
/-- What was laid down, of a file's text. -/
structure FaE (sv : ByteArray) (id gen : Int) (es : List SE) : Prop where
  val : HImDe.val sv = (id, gen, es)
  code : HImDe.code sv = 0
  opn : opn sv ltE = 0
  size : 12 ≤ sv.size ∧ sv.size ≤ 100000000
theorem faE {sv : ByteArray} {id gen : Int} {es : List SE}  (g : gdE id gen es = true) (hf : sv = fileOf ltE (byE id gen es)) : FaE sv id gen es := by
  subst hf
  exact ⟨(backE g).1, (backE g).2, opn_file _ _ rfl, by rw [file_size _ _ rfl]; omega, sizeE g⟩
theorem caseE {id gen : Int} {es : List SE} {sv : ByteArray} {sc : Int} {must : Bool} (e : outE id gen es = (sv, sc)) (hm : must = true → gdE id gen es = true) : (gdE id gen es = true ∧ sv = fileOf ltE (byE id gen es) ∧ sc = 0) ∨ (must = false ∧ sc = 2) := by
  unfold outE at e
  by_cases h : gdE id gen es = true
  · rw [if_pos h] at e
    obtain ⟨e1, e2⟩ := Prod.mk.inj e
    exact Or.inl ⟨h, e1.symm, e2.symm⟩
  · rw [if_neg h] at e
    obtain ⟨e1, e2⟩ := Prod.mk.inj e
    refine Or.inr ⟨?_, e2.symm⟩
    cases hmm : must with
    | false => rfl
    | true => exact absurd (hm hmm) h
structure FaN (sv : ByteArray) (gen next upto : Int) (ps : List SN) : Prop where
  val : HImDm.val sv = (gen, next, upto, ps)
  code : HImDm.code sv = 0
  opn : opn sv ltN = 0
  size : 12 ≤ sv.size ∧ sv.size ≤ 100000000
theorem faN {sv : ByteArray} {gen next upto : Int} {ps : List SN} (hs : ∀ x ∈ ps, Su x) (h0 : 0 ≤ upto) (g : gdN gen next upto ps = true) (hf : sv = fileOf ltN (byN gen next upto ps)) : FaN sv gen next upto ps := by
  subst hf
  exact ⟨(backN hs h0 g).1, (backN hs h0 g).2, opn_file _ _ rfl, by rw [file_size _ _ rfl]; omega, sizeN hs g⟩
theorem caseN {gen next upto : Int} {ps : List SN} {sv : ByteArray} {sc : Int} (e : outN gen next upto ps = (sv, sc)) : (gdN gen next upto ps = true ∧ sv = fileOf ltN (byN gen next upto ps) ∧ sc = 0) ∨ (sv = ⟨#[]⟩ ∧ sc = 2) := by
  unfold outN at e
  by_cases h : gdN gen next upto ps = true
  · rw [if_pos h] at e
    obtain ⟨e1, e2⟩ := Prod.mk.inj e
    exact Or.inl ⟨h, e1.symm, e2.symm⟩
  · rw [if_neg h] at e
    obtain ⟨e1, e2⟩ := Prod.mk.inj e
    exact Or.inr ⟨e1.symm, e2.symm⟩
set_option maxRecDepth 100000 in
set_option maxHeartbeats 64000000 in
theorem tells_any (id lo hi gen : Int) (A : Option Addr) (c : Nat) (ds : List SD) (A2 : Option Addr) (c2 : Nat) (es : List SE) (mg mn mu : Int) (A3 : Option Addr) (c3 : Nat) (ps : List SN) (a x : Int) (must : Bool) (w : World) (hC : Kd.C k58 w A ds.length ds) (hc : ds.length ≤ c) (hC2 : Kd.C k60 w A2 es.length es) (hc2 : es.length ≤ c2) (hC3 : Kd.C k36 w A3 ps.length ps) (hc3 : ps.length ≤ c3) (h0 : 0 ≤ lo) (h0m : 0 ≤ mu) (hn : ds.length < 3518437208883) (hm : es.length < 4398046511104) (hp : ps.length < 2513169434916) (hr : ∀ y ∈ ps, (Lit.int .i64 y.f0).wf = true) (hs : ∀ y ∈ ps, Su y) (ha : 0 ≤ a ∧ a ≤ 18446744073709551615) (hx : 0 ≤ x ∧ x ≤ 255) (hT : Tab w) (hmust : must = true → gdD id lo hi ds = true ∧ gdE id gen es = true) :
    Calls Tryd.prog 27 #[.agg #[.int .i64 id, .int .u64 lo, .int .u64 hi, .slice A ds.length c, .int .i64 gen, .slice A2 es.length c2], .agg #[.int .i64 mg, .int .i64 mn, .int .u64 mu, .slice A3 ps.length c3], .int .u64 a, .int .u8 x, .bool must] w fun e w' => e = .returned (.bool true) ∧ Below w.heap.size w w' := by
  have HC := Aside0.mk hC
  have HC2 := Aside0.mk hC2
  have HC3 := Aside0.mk hC3
  have Hc := Aside0.mk hc
  have Hc2 := Aside0.mk hc2
  have Hc3 := Aside0.mk hc3
  have HN := Aside0.mk hn
  have HM := Aside0.mk hm
  have HP := Aside0.mk hp
  have HR := Aside0.mk hr
  have HSu := Aside0.mk hs
  have Ha := Aside0.mk ha
  have Hx := Aside0.mk hx
  have HTb := Aside0.mk hT
  have HMust := Aside0.mk hmust
  clear hC hC2 hC3 hc hc2 hc3 hn hm hp hr hs hT hmust
  have HS : Aside0 (Ts w #[.int .i64 id, .int .u64 lo, .int .u64 hi, .slice A ds.length c, .int .i64 gen, .slice A2 es.length c2] #[.int .i64 mg, .int .i64 mn, .int .u64 mu, .slice A3 ps.length c3] ((w.alloc (.cells #[.int .i64 id, .int .u64 lo, .int .u64 hi, .slice A ds.length c, .int .i64 gen, .slice A2 es.length c2] 46)).alloc (.cells #[.int .i64 mg, .int .i64 mn, .int .u64 mu, .slice A3 ps.length c3] 25))) := ⟨⟨below_alloc (below_alloc (Below.refl _ _) _) _, blk_alloc (blk_new _ _) _, by have := blk_new (w.alloc (.cells #[.int .i64 id, .int .u64 lo, .int .u64 hi, .slice A ds.length c, .int .i64 gen, .slice A2 es.length c2] 46)) (.cells #[.int .i64 mg, .int .i64 mn, .int .u64 mu, .slice A3 ps.length c3] 25); simpa using this⟩⟩
  have a1 := ha.1
  have a2 := ha.2
  have x1 := hx.1
  have x2 := hx.2
  clear ha hx
  go_enter Tryd.func27, Tryd.ntmps27
  have p0 : _ = some (Value.int .i64 id) := (blk_cell HS.out.bp 0).trans rfl
  have p1 : _ = some (Value.int .u64 lo) := (blk_cell HS.out.bp 1).trans rfl
  have p2 : _ = some (Value.int .u64 hi) := (blk_cell HS.out.bp 2).trans rfl
  have p3 : _ = some (Value.slice A ds.length c) := (blk_cell HS.out.bp 3).trans rfl
  have p4 : _ = some (Value.int .i64 gen) := (blk_cell HS.out.bp 4).trans rfl
  have p5 : _ = some (Value.slice A2 es.length c2) := (blk_cell HS.out.bp 5).trans rfl
  go_wp2_with fail
  refine (twin_any id lo hi gen _ _ _ ds _ _ _ es _ (Kd.C_below HC.out HS.out.bel) Hc.out (Kd.C_below HC2.out HS.out.bel) Hc2.out HN.out HM.out).mono ?_
  rintro e w1 ⟨B1, d1, B2, d2, rfl, r1, r2, hb⟩
  have R1 := Aside0.mk r1
  have R2 := Aside0.mk r2
  replace HS := Aside0.mk (HS.out.step hb)
  clear r1 r2 hb
  clear p0 p1 p2 p3 p4 p5
  obtain ⟨sD, HsD⟩ : ∃ s, Aside0 (outD id lo hi ds = s) := ⟨_, ⟨rfl⟩⟩
  obtain ⟨sv, sc⟩ := sD
  have HCase := Aside0.mk (caseD HsD.out (fun h => (HMust.out h).1))
  go_wp2_with fail
  refine (encD_p id lo hi gen _ _ _ ds _ _ _ es _ (rC R1.out) (rN R1.out) (rC R2.out) (rN R2.out) (Tab.below HTb.out HS.out.bel) h0 HN.out).mono ?_
  rintro e w2 ⟨he, hb⟩
  have he2 : e = .returned (.tuple #[.string sv, .int .i64 sc]) := by rw [he, HsD.out]
  clear he
  subst he2
  replace HS := Aside0.mk (HS.out.step hb)
  clear hb R1 R2
  go_upto_region 2 with (fail)
  go_cut [34] from 29 to 34 (fun v wx => v = .bool false ∧ Aside0 (Ts w #[.int .i64 id, .int .u64 lo, .int .u64 hi, .slice A ds.length c, .int .i64 gen, .slice A2 es.length c2] #[.int .i64 mg, .int .i64 mn, .int .u64 mu, .slice A3 ps.length c3] wx))
  case first =>
    rcases HCase.out with ⟨-, -, rfl⟩ | ⟨hmf, -⟩
    · cases must
      all_goals (go_wp2_with (first | (go_at_call 10; refine (num_any _ _).mono ?_; rintro e w' ⟨rfl, rfl⟩) | fail); go_meet; case rel => exact ⟨rfl, HS⟩)
    · clear HMust
      subst hmf
      go_wp2_with (first | (go_at_call 10; refine (num_any _ _).mono ?_; rintro e w' ⟨rfl, rfl⟩) | fail)
      go_meet
      case rel => exact ⟨rfl, HS⟩
  obtain ⟨rfl, hS⟩ := hcut
  clear HS
  obtain ⟨w3, rfl⟩ : ∃ q, q = wc := ⟨_, rfl⟩
  have HS := hS
  clear hS
  go_upto_if 37 with (first | (go_at_call 10; refine (num_any _ _).mono ?_; rintro e w' ⟨rfl, rfl⟩) | fail)
  go_cut [] from 35 to 120 (fun wx => Aside0 (Ts w #[.int .i64 id, .int .u64 lo, .int .u64 hi, .slice A ds.length c, .int .i64 gen, .slice A2 es.length c2] #[.int .i64 mg, .int .i64 mn, .int .u64 mu, .slice A3 ps.length c3] wx))
  case first =>
    rcases HCase.out with ⟨g, hf, rfl⟩ | ⟨-, rfl⟩
    · have HG := Aside0.mk g
      have HF := Aside0.mk hf
      clear g hf HCase HMust
      have HFa := Aside0.mk (faD h0 HG.out HF.out)
      have hne := ne_of_size HFa.out.size.1
      clear HF HG
      go_wp2_with fail
      refine (decD_p (b := sv) (Nat.le_trans HFa.out.size.2 (by decide)) (Tab.below HTb.out HS.out.bel) HFa.out.val HFa.out.code).mono ?_
      rintro e w4 ⟨Q, qn, qc, rfl, rq, hb⟩
      have RQ := Aside0.mk rq
      replace HS := Aside0.mk (HS.out.step hb)
      clear rq hb
      go_wp2_with fail
      refine (twin_any id lo hi 0 _ _ _ ds _ _ _ ([] : List SE) _ (Kd.C_below (rC RQ.out) (below_alloc (Below.refl _ _) _)) (rN RQ.out) (rC (Kd.R_nil k60 60 _ 0 (fun _ => True))) (Nat.le_refl 0) HN.out (by decide)).mono ?_
      rintro e w5 ⟨B3, d3, B4, d4, rfl, r1, r2, hb⟩
      have R1 := Aside0.mk r1
      have R2 := Aside0.mk r2
      have HQ := Aside0.mk (blk_below (blk_new _ _) hb)
      replace RQ := Aside0.mk (Kd.R_below (Kd.R_below RQ.out (below_alloc (Below.refl _ _) _)) hb)
      replace HS := Aside0.mk ((HS.out.alloc _).step hb)
      clear r1 r2 hb
      go_wp2_with fail
      refine (encD_p id lo hi 0 _ _ _ ds _ _ _ ([] : List SE) _ (rC R1.out) (rN R1.out) (rC R2.out) (rN R2.out) (Tab.below HTb.out HS.out.bel) h0 HN.out).mono ?_
      rintro e w6 ⟨he, hb⟩
      have he2 : e = .returned (.tuple #[.string sv, .int .i64 0]) := by rw [he, HsD.out]
      clear he
      subst he2
      replace HQ := Aside0.mk (blk_below HQ.out hb)
      replace RQ := Aside0.mk (Kd.R_below RQ.out hb)
      replace HS := Aside0.mk (HS.out.step hb)
      clear hb R1 R2
      have q0 : _ = some (Value.int .i64 id) := (blk_cell HQ.out 0).trans rfl
      have q1 : _ = some (Value.int .u64 lo) := (blk_cell HQ.out 1).trans rfl
      have q2 : _ = some (Value.int .u64 hi) := (blk_cell HQ.out 2).trans rfl
      have q3 : _ = some (Value.slice Q qn qc) := (blk_cell HQ.out 3).trans rfl
      have q4 : _ = some (Value.int .i64 0) := (blk_cell HQ.out 4).trans rfl
      have q5 : _ = some (Value.slice none 0 0) := (blk_cell HQ.out 5).trans rfl
      have p0 : _ = some (Value.int .i64 id) := (blk_cell HS.out.bp 0).trans rfl
      have p1 : _ = some (Value.int .u64 lo) := (blk_cell HS.out.bp 1).trans rfl
      have p2 : _ = some (Value.int .u64 hi) := (blk_cell HS.out.bp 2).trans rfl
      have p3 : _ = some (Value.slice A ds.length c) := (blk_cell HS.out.bp 3).trans rfl
      have p4 : _ = some (Value.int .i64 gen) := (blk_cell HS.out.bp 4).trans rfl
      have p5 : _ = some (Value.slice A2 es.length c2) := (blk_cell HS.out.bp 5).trans rfl
      go_wp2_with (first | (go_at_call 10; refine (num_any _ _).mono ?_; rintro e w' ⟨rfl, rfl⟩) | fail)
      refine (same_data _ _ _ ds _ _ _ _ (rC RQ.out) (rN RQ.out) (Kd.C_below HC.out HS.out.bel) Hc.out HN.out).mono ?_
      rintro e w7 ⟨rfl, hb⟩
      replace HQ := Aside0.mk (blk_below HQ.out hb)
      replace HS := Aside0.mk (HS.out.step hb)
      clear hb RQ
      clear q0 q1 q2 q3 q4 q5
      clear p0 p1 p2 p3 p4 p5
      have q0 : _ = some (Value.int .i64 id) := (blk_cell HQ.out 0).trans rfl
      have q1 : _ = some (Value.int .u64 lo) := (blk_cell HQ.out 1).trans rfl
      have q2 : _ = some (Value.int .u64 hi) := (blk_cell HQ.out 2).trans rfl
      have q3 : _ = some (Value.slice Q qn qc) := (blk_cell HQ.out 3).trans rfl
      have q4 : _ = some (Value.int .i64 0) := (blk_cell HQ.out 4).trans rfl
      have q5 : _ = some (Value.slice none 0 0) := (blk_cell HQ.out 5).trans rfl
      go_wp2_with fail
      refine (flip_any sv a x _ (by have := HFa.out.size.1; omega) (Nat.le_trans HFa.out.size.2 (by decide)) Ha.out Hx.out).mono ?_
      rintro e w8 hF
      obtain ⟨t, rfl, ht, hb, hno⟩ := turned hF Hx.out
      have HNo := Aside0.mk (fun hx0 => hno ltD rfl HFa.out.opn hx0)
      have HT8 := Aside0.mk ht
      replace HS := Aside0.mk (HS.out.step hb)
      clear hF ht hb hno HQ
      clear q0 q1 q2 q3 q4 q5
      go_wp2_with fail
      refine (decD_p (b := t) (by rw [HT8.out]; exact Nat.le_trans HFa.out.size.2 (by decide)) (Tab.below HTb.out HS.out.bel) (id := (HImDd.val t).1) (lo := (HImDd.val t).2.1) (hi := (HImDd.val t).2.2.1) (ds := (HImDd.val t).2.2.2) rfl rfl).mono ?_
      rintro e w9 ⟨Z, zn, zc, rfl, rz, hb⟩
      replace HS := Aside0.mk (HS.out.step hb)
      clear rz hb
      obtain ⟨cd, HCd⟩ : ∃ cd, Aside0 (HImDd.code t = cd) := ⟨_, ⟨rfl⟩⟩
      rw [HCd.out]
      by_cases hx0 : x = 0
      · clear HNo HFa
        subst hx0
        go_wp2_with (first | (go_at_call 10; refine (num_any _ _).mono ?_; rintro e w' ⟨rfl, rfl⟩) | fail)
        go_meet
        case rel => exact HS
      · have hx1 : (x == 0) = false := beq_eq_false_iff_ne.2 hx0
        have hc1 : (cd == 0) = false := beq_eq_false_iff_ne.2 (by rw [← HCd.out]; exact codeD_no (HNo.out hx0))
        go_wp2_with (first | (go_at_call 10; refine (num_any _ _).mono ?_; rintro e w' ⟨rfl, rfl⟩) | fail)
        go_meet
        case rel => exact HS
    · go_wp2_with (first | (go_at_call 10; refine (num_any _ _).mono ?_; rintro e w' ⟨rfl, rfl⟩) | fail)
      go_meet
      case rel => exact HS
  have hS := hcut
  clear HS hcut HCase HsD
  obtain ⟨w4, rfl⟩ : ∃ q, q = wc := ⟨_, rfl⟩
  have HS := hS
  clear hS
  have p0 : _ = some (Value.int .i64 id) := (blk_cell HS.out.bp 0).trans rfl
  have p1 : _ = some (Value.int .u64 lo) := (blk_cell HS.out.bp 1).trans rfl
  have p2 : _ = some (Value.int .u64 hi) := (blk_cell HS.out.bp 2).trans rfl
  have p3 : _ = some (Value.slice A ds.length c) := (blk_cell HS.out.bp 3).trans rfl
  have p4 : _ = some (Value.int .i64 gen) := (blk_cell HS.out.bp 4).trans rfl
  have p5 : _ = some (Value.slice A2 es.length c2) := (blk_cell HS.out.bp 5).trans rfl
  go_wp2_with fail
  refine (twin_any id lo hi gen _ _ _ ds _ _ _ es _ (Kd.C_below HC.out HS.out.bel) Hc.out (Kd.C_below HC2.out HS.out.bel) Hc2.out HN.out HM.out).mono ?_
  rintro e w1 ⟨B1, d1, B2, d2, rfl, r1, r2, hb⟩
  have R1 := Aside0.mk r1
  have R2 := Aside0.mk r2
  replace HS := Aside0.mk (HS.out.step hb)
  clear r1 r2 hb
  clear p0 p1 p2 p3 p4 p5
  obtain ⟨sD, HsD⟩ : ∃ s, Aside0 (outE id gen es = s) := ⟨_, ⟨rfl⟩⟩
  obtain ⟨sv, sc⟩ := sD
  have HCase := Aside0.mk (caseE HsD.out (fun h => (HMust.out h).2))
  go_wp2_with fail
  refine (encE_p id lo hi gen _ _ _ ds _ _ _ es _ (rC R1.out) (rN R1.out) (rC R2.out) (rN R2.out) (Tab.below HTb.out HS.out.bel) HM.out).mono ?_
  rintro e w2 ⟨he, hb⟩
  have he2 : e = .returned (.tuple #[.string sv, .int .i64 sc]) := by rw [he, HsD.out]
  clear he
  subst he2
  replace HS := Aside0.mk (HS.out.step hb)
  clear hb R1 R2
  go_upto_region 13 with (fail)
  go_cut [132] from 127 to 132 (fun v wx => v = .bool false ∧ Aside0 (Ts w #[.int .i64 id, .int .u64 lo, .int .u64 hi, .slice A ds.length c, .int .i64 gen, .slice A2 es.length c2] #[.int .i64 mg, .int .i64 mn, .int .u64 mu, .slice A3 ps.length c3] wx))
  case first =>
    rcases HCase.out with ⟨-, -, rfl⟩ | ⟨hmf, -⟩
    · cases must
      all_goals (go_wp2_with (first | (go_at_call 10; refine (num_any _ _).mono ?_; rintro e w' ⟨rfl, rfl⟩) | fail); go_meet; case rel => exact ⟨rfl, HS⟩)
    · clear HMust
      subst hmf
      go_wp2_with (first | (go_at_call 10; refine (num_any _ _).mono ?_; rintro e w' ⟨rfl, rfl⟩) | fail)
      go_meet
      case rel => exact ⟨rfl, HS⟩
  obtain ⟨rfl, hS⟩ := hcut
  clear HS
  obtain ⟨w3, rfl⟩ : ∃ q, q = wc := ⟨_, rfl⟩
  have HS := hS
  clear hS
  go_upto_if 135 with (first | (go_at_call 10; refine (num_any _ _).mono ?_; rintro e w' ⟨rfl, rfl⟩) | fail)
  go_cut [] from 133 to 216 (fun wx => Aside0 (Ts w #[.int .i64 id, .int .u64 lo, .int .u64 hi, .slice A ds.length c, .int .i64 gen, .slice A2 es.length c2] #[.int .i64 mg, .int .i64 mn, .int .u64 mu, .slice A3 ps.length c3] wx))
  case first =>
    rcases HCase.out with ⟨g, hf, rfl⟩ | ⟨-, rfl⟩
    · have HG := Aside0.mk g
      have HF := Aside0.mk hf
      clear g hf HCase HMust
      have HFa := Aside0.mk (faE  HG.out HF.out)
      have hne := ne_of_size HFa.out.size.1
      clear HF HG
      go_wp2_with fail
      refine (decE_p (b := sv) (Nat.le_trans HFa.out.size.2 (by decide)) (Tab.below HTb.out HS.out.bel) HFa.out.val HFa.out.code).mono ?_
      rintro e w4 ⟨Q, qn, qc, rfl, rq, hb⟩
      have RQ := Aside0.mk rq
      replace HS := Aside0.mk (HS.out.step hb)
      clear rq hb
      go_wp2_with fail
      refine (twin_any id 0 0 gen _ _ _ ([] : List SD) _ _ _ es _ (rC (Kd.R_nil k58 58 _ 0 (fun _ => True))) (Nat.le_refl 0) (Kd.C_below (rC RQ.out) (below_alloc (Below.refl _ _) _)) (rN RQ.out) (by decide) HM.out).mono ?_
      rintro e w5 ⟨B3, d3, B4, d4, rfl, r1, r2, hb⟩
      have R1 := Aside0.mk r1
      have R2 := Aside0.mk r2
      have HQ := Aside0.mk (blk_below (blk_new _ _) hb)
      replace RQ := Aside0.mk (Kd.R_below (Kd.R_below RQ.out (below_alloc (Below.refl _ _) _)) hb)
      replace HS := Aside0.mk ((HS.out.alloc _).step hb)
      clear r1 r2 hb
      go_wp2_with fail
      refine (encE_p id 0 0 gen _ _ _ ([] : List SD) _ _ _ es _ (rC R1.out) (rN R1.out) (rC R2.out) (rN R2.out) (Tab.below HTb.out HS.out.bel) HM.out).mono ?_
      rintro e w6 ⟨he, hb⟩
      have he2 : e = .returned (.tuple #[.string sv, .int .i64 0]) := by rw [he, HsD.out]
      clear he
      subst he2
      replace HQ := Aside0.mk (blk_below HQ.out hb)
      replace RQ := Aside0.mk (Kd.R_below RQ.out hb)
      replace HS := Aside0.mk (HS.out.step hb)
      clear hb R1 R2
      have q0 : _ = some (Value.int .i64 id) := (blk_cell HQ.out 0).trans rfl
      have q1 : _ = some (Value.int .u64 0) := (blk_cell HQ.out 1).trans rfl
      have q2 : _ = some (Value.int .u64 0) := (blk_cell HQ.out 2).trans rfl
      have q3 : _ = some (Value.slice none 0 0) := (blk_cell HQ.out 3).trans rfl
      have q4 : _ = some (Value.int .i64 gen) := (blk_cell HQ.out 4).trans rfl
      have q5 : _ = some (Value.slice Q qn qc) := (blk_cell HQ.out 5).trans rfl
      have p0 : _ = some (Value.int .i64 id) := (blk_cell HS.out.bp 0).trans rfl
      have p1 : _ = some (Value.int .u64 lo) := (blk_cell HS.out.bp 1).trans rfl
      have p2 : _ = some (Value.int .u64 hi) := (blk_cell HS.out.bp 2).trans rfl
      have p3 : _ = some (Value.slice A ds.length c) := (blk_cell HS.out.bp 3).trans rfl
      have p4 : _ = some (Value.int .i64 gen) := (blk_cell HS.out.bp 4).trans rfl
      have p5 : _ = some (Value.slice A2 es.length c2) := (blk_cell HS.out.bp 5).trans rfl
      go_wp2_with (first | (go_at_call 10; refine (num_any _ _).mono ?_; rintro e w' ⟨rfl, rfl⟩) | fail)
      refine (same_gone _ _ _ es _ _ _ _ (rC RQ.out) (rN RQ.out) (Kd.C_below HC2.out HS.out.bel) Hc2.out HM.out).mono ?_
      rintro e w7 ⟨rfl, hb⟩
      replace HQ := Aside0.mk (blk_below HQ.out hb)
      replace HS := Aside0.mk (HS.out.step hb)
      clear hb RQ
      clear q0 q1 q2 q3 q4 q5
      clear p0 p1 p2 p3 p4 p5
      have q0 : _ = some (Value.int .i64 id) := (blk_cell HQ.out 0).trans rfl
      have q1 : _ = some (Value.int .u64 0) := (blk_cell HQ.out 1).trans rfl
      have q2 : _ = some (Value.int .u64 0) := (blk_cell HQ.out 2).trans rfl
      have q3 : _ = some (Value.slice none 0 0) := (blk_cell HQ.out 3).trans rfl
      have q4 : _ = some (Value.int .i64 gen) := (blk_cell HQ.out 4).trans rfl
      have q5 : _ = some (Value.slice Q qn qc) := (blk_cell HQ.out 5).trans rfl
      go_wp2_with fail
      refine (flip_any sv a x _ (by have := HFa.out.size.1; omega) (Nat.le_trans HFa.out.size.2 (by decide)) Ha.out Hx.out).mono ?_
      rintro e w8 hF
      obtain ⟨t, rfl, ht, hb, hno⟩ := turned hF Hx.out
      have HNo := Aside0.mk (fun hx0 => hno ltE rfl HFa.out.opn hx0)
      have HT8 := Aside0.mk ht
      replace HS := Aside0.mk (HS.out.step hb)
      clear hF ht hb hno HQ
      clear q0 q1 q2 q3 q4 q5
      go_wp2_with fail
      refine (decE_p (b := t) (by rw [HT8.out]; exact Nat.le_trans HFa.out.size.2 (by decide)) (Tab.below HTb.out HS.out.bel) (id := (HImDe.val t).1) (gen := (HImDe.val t).2.1) (es := (HImDe.val t).2.2) rfl rfl).mono ?_
      rintro e w9 ⟨Z, zn, zc, rfl, rz, hb⟩
      replace HS := Aside0.mk (HS.out.step hb)
      clear rz hb
      obtain ⟨cd, HCd⟩ : ∃ cd, Aside0 (HImDe.code t = cd) := ⟨_, ⟨rfl⟩⟩
      rw [HCd.out]
      by_cases hx0 : x = 0
      · clear HNo HFa
        subst hx0
        go_wp2_with (first | (go_at_call 10; refine (num_any _ _).mono ?_; rintro e w' ⟨rfl, rfl⟩) | fail)
        go_meet
        case rel => exact HS
      · have hx1 : (x == 0) = false := beq_eq_false_iff_ne.2 hx0
        have hc1 : (cd == 0) = false := beq_eq_false_iff_ne.2 (by rw [← HCd.out]; exact codeE_no (HNo.out hx0))
        go_wp2_with (first | (go_at_call 10; refine (num_any _ _).mono ?_; rintro e w' ⟨rfl, rfl⟩) | fail)
        go_meet
        case rel => exact HS
    · go_wp2_with (first | (go_at_call 10; refine (num_any _ _).mono ?_; rintro e w' ⟨rfl, rfl⟩) | fail)
      go_meet
      case rel => exact HS
  have hS := hcut
  clear HS hcut HCase HsD
  obtain ⟨w4, rfl⟩ : ∃ q, q = wc := ⟨_, rfl⟩
  have HS := hS
  clear hS
  have m0 : _ = some (Value.int .i64 mg) := (blk_cell HS.out.bm 0).trans rfl
  have m1 : _ = some (Value.int .i64 mn) := (blk_cell HS.out.bm 1).trans rfl
  have m2 : _ = some (Value.int .u64 mu) := (blk_cell HS.out.bm 2).trans rfl
  have m3 : _ = some (Value.slice A3 ps.length c3) := (blk_cell HS.out.bm 3).trans rfl
  go_wp2_with fail
  refine (twin_man mg mn mu _ _ _ ps _ (Kd.C_below HC3.out HS.out.bel) Hc3.out HP.out).mono ?_
  rintro e w1 ⟨B1, d1, rfl, r1, hb⟩
  have R1 := Aside0.mk r1
  replace HS := Aside0.mk (HS.out.step hb)
  clear r1 hb
  clear m0 m1 m2 m3
  go_wp2_with fail
  obtain ⟨sD, HsD⟩ : ∃ s, Aside0 (outN mg mn mu ps = s) := ⟨_, ⟨rfl⟩⟩
  obtain ⟨sv, sc⟩ := sD
  refine (encN_p mg mn mu _ _ _ ps _ (rC R1.out) (rN R1.out) HR.out (Tab.below HTb.out HS.out.bel) HSu.out h0m HP.out).mono ?_
  rintro e w2 ⟨he, hb⟩
  have he2 : e = .returned (.tuple #[.string sv, .int .i64 sc]) := by rw [he, HsD.out]
  clear he
  subst he2
  replace HS := Aside0.mk (HS.out.step hb)
  clear hb R1
  rcases caseN HsD.out with ⟨g, hf, rfl⟩ | ⟨hf, rfl⟩
  · have HG := Aside0.mk g
    have HF := Aside0.mk hf
    clear g hf
    have HFa := Aside0.mk (faN HSu.out h0m HG.out HF.out)
    have hne := ne_of_size HFa.out.size.1
    clear HF HG
    go_wp2_with (first | (go_at_call 10; refine (num_any _ _).mono ?_; rintro e w' ⟨rfl, rfl⟩) | fail)
    refine (decN_p (b := sv) (Nat.le_trans HFa.out.size.2 (by decide)) (Tab.below HTb.out HS.out.bel) HFa.out.val HFa.out.code).mono ?_
    rintro e w4 ⟨Q, qn, qc, rfl, rq, hb⟩
    have RQ := Aside0.mk rq
    replace HS := Aside0.mk (HS.out.step hb)
    clear rq hb
    have m0 : _ = some (Value.int .i64 mg) := (blk_cell (blk_alloc HS.out.bm (.cells #[.int .i64 mg, .int .i64 mn, .int .u64 mu, .slice Q qn qc] 25)) 0).trans rfl
    have m1 : _ = some (Value.int .i64 mn) := (blk_cell (blk_alloc HS.out.bm (.cells #[.int .i64 mg, .int .i64 mn, .int .u64 mu, .slice Q qn qc] 25)) 1).trans rfl
    have m2 : _ = some (Value.int .u64 mu) := (blk_cell (blk_alloc HS.out.bm (.cells #[.int .i64 mg, .int .i64 mn, .int .u64 mu, .slice Q qn qc] 25)) 2).trans rfl
    have m3 : _ = some (Value.slice A3 ps.length c3) := (blk_cell (blk_alloc HS.out.bm (.cells #[.int .i64 mg, .int .i64 mn, .int .u64 mu, .slice Q qn qc] 25)) 3).trans rfl
    go_wp2_with (first | (go_at_call 10; refine (num_any _ _).mono ?_; rintro e w' ⟨rfl, rfl⟩) | fail)
    refine (same_man mg mn mu _ _ _ ps _ _ _ _ (Kd.C_below (rC RQ.out) (below_alloc (Below.refl _ _) _)) (rN RQ.out) (Kd.C_below HC3.out (below_step HS.out.bel (below_alloc (Below.refl _ _) _))) Hc3.out HP.out).mono ?_
    rintro e w5 ⟨rfl, hb⟩
    replace HS := Aside0.mk ((HS.out.alloc _).step hb)
    clear hb RQ
    clear m0 m1 m2 m3
    go_wp2_with fail
    refine (flip_any sv a x _ (by have := HFa.out.size.1; omega) (Nat.le_trans HFa.out.size.2 (by decide)) Ha.out Hx.out).mono ?_
    rintro e w8 hF
    obtain ⟨t, rfl, ht, hb, hno⟩ := turned hF Hx.out
    have HNo := Aside0.mk (fun hx0 => hno ltN rfl HFa.out.opn hx0)
    have HT8 := Aside0.mk ht
    replace HS := Aside0.mk (HS.out.step hb)
    clear hF ht hb hno
    go_wp2_with fail
    refine (decN_p (b := t) (by rw [HT8.out]; exact Nat.le_trans HFa.out.size.2 (by decide)) (Tab.below HTb.out HS.out.bel) (gen := (HImDm.val t).1) (next := (HImDm.val t).2.1) (upto := (HImDm.val t).2.2.1) (ps := (HImDm.val t).2.2.2) rfl rfl).mono ?_
    rintro e w9 ⟨Z, zn, zc, rfl, rz, hb⟩
    replace HS := Aside0.mk (HS.out.step hb)
    clear rz hb
    obtain ⟨cd, HCd⟩ : ∃ cd, Aside0 (HImDm.code t = cd) := ⟨_, ⟨rfl⟩⟩
    rw [HCd.out]
    by_cases hx0 : x = 0
    · clear HNo HFa
      subst hx0
      go_wp2_with (first | (go_at_call 10; refine (num_any _ _).mono ?_; rintro e w' ⟨rfl, rfl⟩) | fail)
      go_ret
      exact ⟨rfl, HS.out.bel⟩
    · have hx1 : (x == 0) = false := beq_eq_false_iff_ne.2 hx0
      have hc1 : (cd == 0) = false := beq_eq_false_iff_ne.2 (by rw [← HCd.out]; exact codeN_no (HNo.out hx0))
      have hc2 : (cd != 0) = true := by unfold bne; rw [hc1]; rfl
      go_wp2_with (first | (go_at_call 10; refine (num_any _ _).mono ?_; rintro e w' ⟨rfl, rfl⟩) | fail)
      go_ret
      exact ⟨rfl, HS.out.bel⟩
  · have hne : sv.toList = [] := by rw [hf, toList_data]
    have hnf : sv.toList.isEmpty = true := by rw [hne]; rfl
    clear hf
    go_wp2_with (first | (go_at_call 10; refine (num_any _ _).mono ?_; rintro e w' ⟨rfl, rfl⟩) | fail)
    go_ret
    exact ⟨rfl, HS.out.bel⟩
theorem blk_newN {W : World} {n : Nat} (h : W.heap.size = n) (o : Obj) : (W.alloc o).heap[n]? = some o := h ▸ blk_new W o
def oneD : List SD := [⟨5, ⟨#[97]⟩, ⟨#[49]⟩⟩]
def oneE : List SE := [⟨5, 6, ⟨#[97]⟩⟩]
theorem one_okD : gdD 3 4 9 oneD = true := by decide +kernel
theorem one_okE : gdE 3 2 oneE = true := by decide +kernel
theorem own_oneD (W : World) (g : Nat) (h : W.heap[g]? = some (.cells #[.int .u64 5, .string ⟨#[97]⟩, .string ⟨#[49]⟩] 58 (0, 0))) : Kd.C k58 W (some ⟨g, 0, none⟩) 1 oneD := by
  refine ⟨rfl, by decide, fun _ => ⟨⟨g, 0, none⟩, rfl, fun j p hj => ?_⟩⟩
  match j, hj with
  | 0, hj =>
    obtain rfl : p = ⟨5, ⟨#[97]⟩, ⟨#[49]⟩⟩ := (Option.some.inj hj).symm
    refine ⟨[.int .u64 5, .string ⟨#[97]⟩, .string ⟨#[49]⟩], rfl, k58_mk W _, fun i u hu => ?_⟩
    rw [add_plain, blk_cell h]
    have e : 0 * k58.sz + i = i := by omega
    rw [e]
    rw [← hu]
    simp
  | j + 1, hj => simp [oneD] at hj
theorem own_oneE (W : World) (g : Nat) (h : W.heap[g]? = some (.cells #[.int .u64 5, .int .u64 6, .string ⟨#[97]⟩] 60 (0, 0))) : Kd.C k60 W (some ⟨g, 0, none⟩) 1 oneE := by
  refine ⟨rfl, by decide, fun _ => ⟨⟨g, 0, none⟩, rfl, fun j p hj => ?_⟩⟩
  match j, hj with
  | 0, hj =>
    obtain rfl : p = ⟨5, 6, ⟨#[97]⟩⟩ := (Option.some.inj hj).symm
    refine ⟨[.int .u64 5, .int .u64 6, .string ⟨#[97]⟩], rfl, k60_mk W _, fun i u hu => ?_⟩
    rw [add_plain, blk_cell h]
    have e : 0 * k60.sz + i = i := by omega
    rw [e]
    rw [← hu]
    simp
  | j + 1, hj => simp [oneE] at hj
set_option maxRecDepth 100000 in
set_option maxHeartbeats 16000000 in
theorem law_any (id lo hi gen : Int) (A : Option Addr) (c : Nat) (ds : List SD) (A2 : Option Addr) (c2 : Nat) (es : List SE) (mg mn mu : Int) (A3 : Option Addr) (c3 : Nat) (ps : List SN) (a x : Int) (w : World) (hC : Kd.C k58 w A ds.length ds) (hc : ds.length ≤ c) (hC2 : Kd.C k60 w A2 es.length es) (hc2 : es.length ≤ c2) (hC3 : Kd.C k36 w A3 ps.length ps) (hc3 : ps.length ≤ c3) (h0 : 0 ≤ lo) (h0m : 0 ≤ mu) (hn : ds.length < 3518437208883) (hm : es.length < 4398046511104) (hp : ps.length < 2513169434916) (hr : ∀ y ∈ ps, (Lit.int .i64 y.f0).wf = true) (hs : ∀ y ∈ ps, Su y) (ha : 0 ≤ a ∧ a ≤ 18446744073709551615) (hx : 0 ≤ x ∧ x ≤ 255) (hT : Tab w) :
    Calls Tryd.prog 6 #[.agg #[.int .i64 id, .int .u64 lo, .int .u64 hi, .slice A ds.length c, .int .i64 gen, .slice A2 es.length c2], .agg #[.int .i64 mg, .int .i64 mn, .int .u64 mu, .slice A3 ps.length c3], .int .u64 a, .int .u8 x] w fun e w' => e = .returned (.bool true) ∧ Below w.heap.size w w' := by
  have HC := Aside0.mk hC
  have HC2 := Aside0.mk hC2
  have HC3 := Aside0.mk hC3
  have Hc := Aside0.mk hc
  have Hc2 := Aside0.mk hc2
  have Hc3 := Aside0.mk hc3
  have HN := Aside0.mk hn
  have HM := Aside0.mk hm
  have HP := Aside0.mk hp
  have HR := Aside0.mk hr
  have HSu := Aside0.mk hs
  have Ha := Aside0.mk ha
  have Hx := Aside0.mk hx
  have HTb := Aside0.mk hT
  clear hC hC2 hC3 hc hc2 hc3 hn hm hp hr hs hT
  have HS : Aside0 (Ts w #[.int .i64 id, .int .u64 lo, .int .u64 hi, .slice A ds.length c, .int .i64 gen, .slice A2 es.length c2] #[.int .i64 mg, .int .i64 mn, .int .u64 mu, .slice A3 ps.length c3] ((w.alloc (.cells #[.int .i64 id, .int .u64 lo, .int .u64 hi, .slice A ds.length c, .int .i64 gen, .slice A2 es.length c2] 46)).alloc (.cells #[.int .i64 mg, .int .i64 mn, .int .u64 mu, .slice A3 ps.length c3] 25))) := ⟨⟨below_alloc (below_alloc (Below.refl _ _) _) _, blk_alloc (blk_new _ _) _, by have := blk_new (w.alloc (.cells #[.int .i64 id, .int .u64 lo, .int .u64 hi, .slice A ds.length c, .int .i64 gen, .slice A2 es.length c2] 46)) (.cells #[.int .i64 mg, .int .i64 mn, .int .u64 mu, .slice A3 ps.length c3] 25); simpa using this⟩⟩
  have a1 := ha.1
  have a2 := ha.2
  have x1 := hx.1
  have x2 := hx.2
  clear ha hx
  go_enter Tryd.func6, Tryd.ntmps6
  go_wp2_with fail
  refine (tells_any 3 4 9 2 (some ⟨w.heap.size + 1 + 1, 0, none⟩) 1 oneD (some ⟨w.heap.size + 1 + 1 + 1, 0, none⟩) 1 oneE mg mn mu A3 c3 ps a x true _ ?_ (Nat.le_refl _) ?_ (Nat.le_refl _) ?_ Hc3.out (by decide) h0m (by decide) (by decide) HP.out HR.out HSu.out Ha.out Hx.out ?_ (fun _ => ⟨one_okD, one_okE⟩)).mono ?_
  · exact own_oneD _ _ (blk_alloc (blk_alloc (blk_newN (by simp) _) _) _)
  · exact own_oneE _ _ (blk_alloc (blk_newN (by simp) _) _)
  · exact Kd.C_below HC3.out (below_alloc (below_alloc (below_alloc HS.out.bel _) _) _)
  · exact Tab.below HTb.out (below_alloc (below_alloc (below_alloc HS.out.bel _) _) _)
  rintro e w1 ⟨rfl, hb⟩
  replace HS := Aside0.mk ((((HS.out.alloc _).alloc _).alloc _).step hb)
  clear hb
  have p0 : _ = some (Value.int .i64 id) := (blk_cell HS.out.bp 0).trans rfl
  have p1 : _ = some (Value.int .u64 lo) := (blk_cell HS.out.bp 1).trans rfl
  have p2 : _ = some (Value.int .u64 hi) := (blk_cell HS.out.bp 2).trans rfl
  have p3 : _ = some (Value.slice A ds.length c) := (blk_cell HS.out.bp 3).trans rfl
  have p4 : _ = some (Value.int .i64 gen) := (blk_cell HS.out.bp 4).trans rfl
  have p5 : _ = some (Value.slice A2 es.length c2) := (blk_cell HS.out.bp 5).trans rfl
  have m0 : _ = some (Value.int .i64 mg) := (blk_cell HS.out.bm 0).trans rfl
  have m1 : _ = some (Value.int .i64 mn) := (blk_cell HS.out.bm 1).trans rfl
  have m2 : _ = some (Value.int .u64 mu) := (blk_cell HS.out.bm 2).trans rfl
  have m3 : _ = some (Value.slice A3 ps.length c3) := (blk_cell HS.out.bm 3).trans rfl
  go_wp2_with fail
  refine (tells_any id lo hi gen _ _ ds _ _ es mg mn mu _ _ ps a x false _ (Kd.C_below HC.out HS.out.bel) Hc.out (Kd.C_below HC2.out HS.out.bel) Hc2.out (Kd.C_below HC3.out HS.out.bel) Hc3.out h0 h0m HN.out HM.out HP.out HR.out HSu.out Ha.out Hx.out (Tab.below HTb.out HS.out.bel) (fun h => by cases h)).mono ?_
  rintro e w2 ⟨rfl, hb⟩
  replace HS := Aside0.mk (HS.out.step hb)
  clear hb
  go_wp2
  go_ret
  exact ⟨rfl, HS.out.bel⟩
theorem walk (x : HKinds.S46) (cs : Array Value) (m : HKinds.S25) (cm : Array Value) (a b : Int) (W : World) (hK : (HKinds.k46).K W x cs.toList) (hM : (HKinds.k25).K W m cm.toList)
    (q1 : (Lit.int .u64 x.f1).wf = true) (q3 : x.f3.length * 40 ≤ 140737488351232 ∧ ∀ y ∈ x.f3, (Lit.int .u64 y.f0).wf = true ∧ y.f1.size ≤ 140737488351232 ∧ y.f2.size ≤ 140737488351232) (q5 : x.f5.length * 32 ≤ 140737488351232 ∧ ∀ y ∈ x.f5, (Lit.int .u64 y.f0).wf = true ∧ (Lit.int .u64 y.f1).wf = true ∧ y.f2.size ≤ 140737488351232)
    (r2 : (Lit.int .u64 m.f2).wf = true) (r3 : m.f3.length * 56 ≤ 140737488351232 ∧ ∀ y ∈ m.f3, (Lit.int .i64 y.f0).wf = true ∧ (Lit.int .u64 y.f1).wf = true ∧ (Lit.int .u64 y.f2).wf = true ∧ (Lit.int .i64 y.f3).wf = true ∧ (Lit.int .i64 y.f4).wf = true ∧ (Lit.int .i64 y.f5).wf = true ∧ (Lit.int .u32 y.f6).wf = true ∧ (Lit.int .u32 y.f7).wf = true)
    (w2 : (Lit.int .u64 a).wf = true) (w3 : (Lit.int .u8 b).wf = true) (hT : Tab W) :
    Calls Tryd.prog 6 #[.agg cs, .agg cm, .int .u64 a, .int .u8 b] W fun e w' => e = .returned (.bool true) ∧ Below W.heap.size W w' := by
  obtain ⟨A, c, A2, c2, rfl, hc, hC, hc2, hC2⟩ := HKinds.pair_open hK
  obtain ⟨A3, c3, rfl, hc3, hC3⟩ := HKinds.man_open hM
  refine law_any x.f0 x.f1 x.f2 x.f4 A c x.f3 A2 c2 x.f5 m.f0 m.f1 m.f2 A3 c3 m.f3 a b W hC hc hC2 hc2 hC3 hc3 (rng_u64 q1).1 (rng_u64 r2).1 (by have := q3.1; omega) (by have := q5.1; omega) (by have := r3.1; omega) (fun y hy => (r3.2 y hy).1) (fun y hy => ?_) (rng_u64 w2) (rng_u8 w3) hT
  obtain ⟨y0, _, _, _, _, _, y6, y7⟩ := r3.2 y hy
  exact ⟨⟨(rng_u32 y6).1, by have := (rng_u32 y6).2; omega⟩, ⟨(rng_u32 y7).1, by have := (rng_u32 y7).2; omega⟩⟩
end Go.Proofs.YtejjidggnnhgjaaDoor.HImTl
/- What the row's reading of an argument gives, in the words of kinds: numbers, truths, texts, slices of whatever depth, structs of any number of fields, each with its bounds out of the row's own weights. -/
set_option linter.unusedVariables false
set_option linter.unusedSimpArgs false
namespace Go.Proofs.YtejjidggnnhgjaaDoor.HOpen
open Go.ChangeShapes Go.WideShapes Go.Deep Go.Proofs.YtejjidggnnhgjaaDoorW.PrintWords
/-- A reading of type t, within the reach, gives a datum of kind d that meets Q. -/
def Opens {α : Type} (P : Program) (t : TypeId) (d : Kd α) (Q : α → Prop) : Prop :=
  ∀ {H : Type} (enc : TypeId × Value → H) (w : World) (base : Nat) (spare : Nat → Bool) (held : Bool) (fuel : Nat) (cs : List Value) (D : DataW H) (ps : List MemPlace),
    DataW.trod enc P w base spare held fuel t cs = some (D, ps) → (∀ n ∈ D.weights P t, n ≤ reachBytes) → ∃ x, d.K w x cs ∧ Q x
theorem opens_int {P : Program} {t : TypeId} {k : IntKind} (h : P.underlying t = some (.int k)) : Opens P t (Kd.int k) (fun n => (Lit.int k n).wf = true) := by
  intro H enc w base spare held fuel cs D ps ht hw
  obtain ⟨n, rfl, hx, wf⟩ := DataW.trod_int h ht
  exact ⟨n, rfl, wf⟩
theorem opens_string {P : Program} {t : TypeId} (h : P.underlying t = some .string) : Opens P t Kd.string (fun s => s.size ≤ 140737488351232) := by
  intro H enc w base spare held fuel cs D ps ht hw
  obtain ⟨s, rfl, hx, _⟩ := DataW.trod_string h ht
  obtain ⟨rfl, _⟩ := Prod.mk.inj hx
  refine ⟨s, rfl, ?_⟩
  have := hw s.data.toList.length (by simp [DataW.weights])
  rw [Array.length_toList] at this
  exact this
theorem weights_all {H : Type} {P : Program} {e : TypeId} : ∀ {l : List (DataW H)} {d : DataW H}, d ∈ l → ∀ n ∈ d.weights P e, n ∈ DataW.weightsAll P e l
  | d0 :: l, d, hd, n, hn => by
    simp only [DataW.weightsAll, List.mem_append]
    rcases List.mem_cons.1 hd with rfl | hd
    · exact Or.inl hn
    · exact Or.inr (weights_all hd n hn)
theorem list_choose {α : Type} {p : Nat → α → Prop} : ∀ n, (∀ i, i < n → ∃ x, p i x) → ∃ xs : List α, xs.length = n ∧ ∀ i x, xs[i]? = some x → p i x
  | 0, _ => ⟨[], rfl, fun i x h => by simp at h⟩
  | n + 1, h => by
    obtain ⟨xs, hl, hx⟩ := list_choose n fun i hi => h i (by omega)
    obtain ⟨x, hp⟩ := h n (by omega)
    refine ⟨xs ++ [x], by rw [List.length_append, hl]; rfl, fun i y hy => ?_⟩
    by_cases hi : i < n
    · rw [List.getElem?_append_left (by omega)] at hy
      exact hx i y hy
    · have hlt := (List.getElem?_eq_some_iff.1 hy).1
      rw [List.length_append, hl, List.length_singleton] at hlt
      obtain rfl : i = n := by omega
      rw [List.getElem?_append_right (by omega), hl, Nat.sub_self] at hy
      simp at hy
      subst hy
      exact hp
theorem opens_slice {α : Type} {P : Program} {t e : TypeId} {e' B : Nat} {d : Kd α} {Q : α → Prop} (h : P.underlying t = some (.slice e)) (hd : Opens P e d Q) (hc : P.cellsOf e = d.sz) (hB : P.bytesOf e = B) :
    Opens P t (Kd.slice e' d) (fun xs => xs.length * B ≤ 140737488351232 ∧ ∀ x ∈ xs, Q x) := by
  intro H enc w base spare held fuel cs D ps ht hw
  rcases open_slice h ht with ⟨rfl, hx⟩ | ⟨a, len, cap, m, n, Dt, Pl, rfl, hb, hl, hm, hmm, hx, hel⟩
  · exact ⟨[], ⟨none, 0, rfl, Nat.le_refl _, Kd.C_nil d w⟩, by simp, by simp⟩
  obtain ⟨rfl, rfl⟩ := Prod.mk.inj hx
  have hlm : len ≤ m := by rw [hmm]; split <;> omega
  have hwi : ∀ i, i < len → ∀ q ∈ (Dt i).weights P e, q ≤ reachBytes := fun i hi q hq => hw q (by
    simp only [DataW.weights, h, List.mem_cons, List.mem_append]
    exact Or.inr (Or.inl (weights_all (d := Dt i) (List.mem_map.2 ⟨i, List.mem_range.2 hi, rfl⟩) q hq)))
  have hlen : len * B ≤ 140737488351232 := by
    have z := hw ((((List.range len).map Dt).length + ((List.range (m - len)).map fun j => Dt (len + j)).length) * P.bytesOf e) (by simp [DataW.weights, h])
    rw [hB, List.length_map, List.length_range] at z
    exact Nat.le_trans (Nat.mul_le_mul_right _ (by omega)) z
  obtain ⟨xs, hxl, hxs⟩ := list_choose (p := fun i x => Q x ∧ ∃ cs', w.cells? base (a.add (i * P.cellsOf e)) (P.cellsOf e) = some cs' ∧ d.K w x cs') len fun i hi => by
    obtain ⟨cs', h1, h2⟩ := hel i (by omega)
    obtain ⟨x, hk, hq⟩ := hd enc w base spare held n cs' (Dt i) (Pl i) h2 (hwi i hi)
    exact ⟨x, hq, cs', h1, hk⟩
  subst hxl
  refine ⟨xs, ⟨some a, cap, rfl, hl, rfl, ?_, fun _ => ⟨a, rfl, fun j p hj => ?_⟩⟩, hlen, fun x hx => ?_⟩
  · have : maxLen = 9223372036854775807 := rfl
    omega
  · obtain ⟨_, cs', h1, hk⟩ := hxs j p hj
    obtain ⟨_, hlen', hcell⟩ := World.cells?_some h1
    refine ⟨cs', d.K_len hk, hk, fun i u hu => ?_⟩
    have hi : i < P.cellsOf e := by rw [← hlen']; exact (List.getElem?_eq_some_iff.1 hu).1
    have := hcell i hi
    rw [Go.Deep.add_add, hu, hc] at this
    exact this
  · obtain ⟨i, hi⟩ := List.getElem?_of_mem hx
    exact (hxs i x hi).1
/-- The fields fs, whose cells begin at o. -/
def OpensFs {α : Type} (P : Program) (fs : List Field) (o : Nat) (d : Kd α) (Q : α → Prop) : Prop :=
  ∀ {H : Type} (enc : TypeId × Value → H) (w : World) (base : Nat) (spare : Nat → Bool) (held : Bool) (n : Nat) (cs : List Value) (xs : List (DataW H × List MemPlace)),
    xs.length = fs.length → (∀ (i : Nat) (f : Field), fs[i]? = some f → DataW.trod enc P w base spare held n f.type ((cs.drop f.offset).take (P.cellsOf f.type)) = xs[i]?) →
    (∀ q ∈ DataW.weightsEach P (fs.map (·.type)) (xs.map (·.1)), q ≤ reachBytes) → ∃ x, d.K w x ((cs.drop o).take d.sz) ∧ Q x
theorem opens_one {α : Type} {P : Program} {f : Field} {o : Nat} {d : Kd α} {Q : α → Prop} (hd : Opens P f.type d Q) (hc : P.cellsOf f.type = d.sz) (ho : f.offset = o) : OpensFs P [f] o d Q := by
  intro H enc w base spare held n cs xs hl hx hw
  match xs, hl with
  | [y], _ =>
    have h0 := hx 0 f rfl
    rw [hc, ho] at h0
    exact hd enc w base spare held n _ y.1 y.2 h0 (fun q hq => hw q (by simp [DataW.weightsEach, hq]))
theorem opens_cons {α β : Type} {P : Program} {f : Field} {fs : List Field} {o o' : Nat} {d : Kd α} {d' : Kd β} {Q : α → Prop} {Q' : β → Prop} (hd : Opens P f.type d Q) (hc : P.cellsOf f.type = d.sz) (ho : f.offset = o) (hr : OpensFs P fs o' d' Q') (ho' : o' = o + d.sz) :
    OpensFs P (f :: fs) o (Kd.pair d d') (fun x => Q x.1 ∧ Q' x.2) := by
  intro H enc w base spare held n cs xs hl hx hw
  match xs, hl with
  | y :: ys, hl =>
    have h0 := hx 0 f rfl
    rw [hc, ho] at h0
    obtain ⟨x, hk, hq⟩ := hd enc w base spare held n _ y.1 y.2 h0 (fun q hq => hw q (by simp [DataW.weightsEach, hq]))
    obtain ⟨x', hk', hq'⟩ := hr enc w base spare held n cs ys (by simpa using hl) (fun i g hg => by have := hx (i + 1) g hg; simpa using this) (fun q hq => hw q (by simp only [List.map_cons, DataW.weightsEach, List.mem_append]; exact Or.inr hq))
    refine ⟨(x, x'), ⟨_, _, ?_, hk, hk'⟩, hq, hq'⟩
    rw [ho', ← List.drop_drop]
    exact List.take_add
theorem opens_struct {α : Type} {P : Program} {t : TypeId} {fs : Array Field} {d : Kd α} {Q : α → Prop} (h : P.underlying t = some (.struct fs)) (hf : OpensFs P fs.toList 0 d Q) (hc : P.cellsOf t = d.sz) : Opens P t d Q := by
  intro H enc w base spare held fuel cs D ps ht hw
  obtain ⟨xs, n, _, hx, hl, hlen, hfs⟩ := DataW.trod_struct h ht
  obtain ⟨rfl, rfl⟩ := Prod.mk.inj hx
  obtain ⟨x, hk, hq⟩ := hf enc w base spare held n cs xs (by simpa using hlen) (fun i f hf => hfs i f (by simpa using hf)) (fun q hq => hw q (by simpa [DataW.weights, h] using hq))
  refine ⟨x, ?_, hq⟩
  rwa [List.drop_zero, List.take_of_length_le (by omega)] at hk
theorem opens_iso {α β : Type} {P : Program} {t : TypeId} {d : Kd α} {Q : α → Prop} (f : β → α) (g : α → β) (hfg : ∀ a, f (g a) = a) (h : Opens P t d Q) : Opens P t (Kd.iso d f) (fun y => Q (f y)) := by
  intro H enc w base spare held fuel cs D ps ht hw
  obtain ⟨x, hk, hq⟩ := h enc w base spare held fuel cs D ps ht hw
  refine ⟨g x, ?_, ?_⟩
  · show d.K w (f (g x)) cs
    rw [hfg]
    exact hk
  · show Q (f (g x))
    rw [hfg]
    exact hq
/-- An argument of a law. -/
theorem opens_arg {α : Type} {P : Program} {H : Type} {enc : TypeId × Value → H} {w : World} {base : Nat} {spare : Nat → Bool} {held : Bool} {t : TypeId} {v : Value} {D : DataW H} {ps : List MemPlace} {ts : List TypeId} {ds : List (DataW H)} {j : Nat} {d : Kd α} {Q : α → Prop}
    (hd : Opens P t d Q) (h : DataW.Trod enc P w base spare held t v D ps) (hsz : (DataW.weightsEach P ts ds).all (· ≤ reachBytes) = true) (ht : ts[j]? = some t) (hD : ds[j]? = some D) : ∃ x, d.K w x v.cells.toList ∧ Q x := by
  obtain ⟨fuel, hf⟩ := h
  exact hd enc w base spare held fuel _ D ps hf fun n hn => by
    have := List.all_eq_true.1 hsz _ (DataW.weights_mem_each ht hD n hn)
    simpa using this
end Go.Proofs.YtejjidggnnhgjaaDoor.HOpen
