/- RedoFrames: the law's walk (r2's door seat). -/
import Derived.Test.YtdepngppnbobdaaDoorHEncF
import Derived.Test.YtdepngppnbobdaaDoorWEqStruct
set_option linter.unusedVariables false
set_option linter.unusedSimpArgs false
namespace Go.Proofs.YtdepngppnbobdaaDoor.HKinds
open Go.Proofs.YtdepngppnbobdaaDoorW.PrintWords
/-- A frame: what a law takes. -/
structure S24 where
  f0 : Int
  f1 : Int
  f2 : ByteArray
def k24 : Kd S24 := Kd.iso (Kd.pair (Kd.int .i64) (Kd.pair (Kd.int .u64) Kd.string)) (fun x : S24 => (x.f0, x.f1, x.f2))
theorem k24_open {w : World} {x : S24} {cs : List Value} (h : k24.K w x cs) : cs = [.int .i64 x.f0, .int .u64 x.f1, .string x.f2] := by
  obtain ⟨_, _, rfl, rfl, ⟨_, _, rfl, rfl, rfl⟩⟩ := h
  rfl
end Go.Proofs.YtdepngppnbobdaaDoor.HKinds
namespace Go.Proofs.YtdepngppnbobdaaDoor.HFrames
open Go.RowKit Go.Proofs.YtdepngppnbobdaaDoor.PFr Go.Proofs.YtdepngppnbobdaaDoor.HFr Go.Proofs.YtdepngppnbobdaaDoor.HEncF Go.Proofs.YtdepngppnbobdaaDoor.HSum Go.Proofs.YtdepngppnbobdaaDoor.HBase Go.Proofs.YtdepngppnbobdaaDoor.HBuild Go.Proofs.YtdepngppnbobdaaDoorW.PrintWords Go.Proofs.YtdepngppnbobdaaDoorW.PrintLast Go.Proofs.YtdepngppnbobdaaDoorW.PrintMore Go.Proofs.YtdepngppnbobdaaDoor.HCore

set_option maxRecDepth 100000 in
set_option maxHeartbeats 4000000 in
theorem frames (kd lsn : Int) (body s : ByteArray) (p : Int) (w : World) (hT : Tab w) (hb : body.size ≤ 140737488351232) (hs : s.size ≤ 140737488351232) :
    Calls Tryd.prog 3 #[.agg #[.int .i64 kd, .int .u64 lsn, .string body], .string s, .int .i64 p] w fun e w' => e = .returned (.bool true) ∧ Below w.heap.size w w' := by
  have HE : Aside0 (redo_EncodeFrame.f kd lsn body = some ((frF kd lsn body).1, (frF kd lsn body).2)) := ⟨rfl⟩
  have HR : Aside0 (strataref11_EncodeFrame.f (10 * body.size + 301) kd lsn body = some ((frF kd lsn body).1, (frF kd lsn body).2)) := ⟨ref_encode kd lsn body (by omega) _ (by omega)⟩
  have HD : Aside0 (redo_DecodeFrame.f 9 s p = some ((decF s p).1, (decF s p).2.1, (decF s p).2.2.1, (decF s p).2.2.2.1, (decF s p).2.2.2.2)) := ⟨prog_dec s p (by omega) 9 (by omega)⟩
  have HQ : Aside0 (strataref11_DecodeFrame.f (10 * s.size + 301) s p = some ((decF s p).1, (decF s p).2.1, (decF s p).2.2.1, (decF s p).2.2.2.1, (decF s p).2.2.2.2)) := ⟨ref_dec s p (by omega) _ (by omega)⟩
  generalize (frF kd lsn body).1 = o1 at HE HR
  generalize (frF kd lsn body).2 = o2 at HE HR
  generalize (decF s p).1 = d1 at HD HQ
  generalize (decF s p).2.1 = d2 at HD HQ
  generalize (decF s p).2.2.1 = d3 at HD HQ
  generalize (decF s p).2.2.2.1 = d4 at HD HQ
  generalize (decF s p).2.2.2.2 = d5 at HD HQ
  generalize (10 * body.size + 301) = K1 at HR
  generalize (10 * s.size + 301) = K2 at HQ
  clear hb hs
  have HB := Aside0.mk (below_alloc (Below.refl w.heap.size w) (.cells #[.int .i64 kd, .int .u64 lsn, .string body] 24))
  have HX := Aside0.mk (heap_alloc_new w (.cells #[.int .i64 kd, .int .u64 lsn, .string body] 24))
  go_enter Tryd.func3, Tryd.ntmps3
  go_wp2_with fail
  refine (redo_EncodeFrame.calls kd lsn body o1 o2 _ HE.out (hT.below HB.out)).mono ?_
  rintro e w1 ⟨rfl, hb1⟩
  have HX := Aside0.mk ((hb1.block _ (blk_lt HX.out)).trans HX.out)
  have HB := Aside0.mk (below_then HB.out (below_size HB.out) hb1)
  clear hb1
  have x0 : _ = some (Value.int .i64 kd) := (blk_cell HX.out 0).trans rfl
  have x1 : _ = some (Value.int .u64 lsn) := (blk_cell HX.out 1).trans rfl
  have x2 : _ = some (Value.string body) := (blk_cell HX.out 2).trans rfl
  go_wp2_with fail
  refine (strataref11_EncodeFrame.calls K1 kd lsn body o1 o2 _ HR.out).mono ?_
  rintro e w2 ⟨rfl, hb1⟩
  have HB := Aside0.mk (below_then HB.out (below_size HB.out) hb1)
  clear hb1 x0 x1 x2 HX
  go_wp2_with fail
  refine (stratalaw11_num.calls o2 o2 _ rfl).mono ?_
  rintro e w3 ⟨rfl, hd⟩
  have HB := Aside0.mk (below_then HB.out (below_size HB.out) hd.below)
  clear hd
  go_wp2_with fail
  refine (redo_DecodeFrame.calls 9 s p d1 d2 d3 d4 d5 _ HD.out (hT.below HB.out)).mono ?_
  rintro e w4 ⟨rfl, hb1⟩
  have HB := Aside0.mk (below_then HB.out (below_size HB.out) hb1)
  clear hb1
  have HX := Aside0.mk (heap_alloc_new w4 (.cells #[.int .i64 d1, .int .u64 d2, .string d3] 24))
  have HB := Aside0.mk (below_alloc HB.out (.cells #[.int .i64 d1, .int .u64 d2, .string d3] 24))
  go_wp2_with fail
  refine (strataref11_DecodeFrame.calls K2 s p d1 d2 d3 d4 d5 _ HQ.out).mono ?_
  rintro e w5 ⟨rfl, hb1⟩
  have HX := Aside0.mk ((hb1.block _ (blk_lt HX.out)).trans HX.out)
  have HB := Aside0.mk (below_then HB.out (below_size HB.out) hb1)
  clear hb1
  have HX := Aside0.mk ((heap_alloc_old w5 (.cells #[.int .i64 d1, .int .u64 d2, .string d3] 24) (blk_lt HX.out)).trans HX.out)
  have HB := Aside0.mk (below_alloc HB.out (.cells #[.int .i64 d1, .int .u64 d2, .string d3] 24))
  have x0 : _ = some (Value.int .i64 d1) := (blk_cell HX.out 0).trans rfl
  have x1 : _ = some (Value.int .u64 d2) := (blk_cell HX.out 1).trans rfl
  have x2 : _ = some (Value.string d3) := (blk_cell HX.out 2).trans rfl
  go_wp2_with fail
  go_ret
  exact ⟨rfl, HB.out⟩
theorem walk (x : HKinds.S24) (cs : Array Value) (s : ByteArray) (p : Int) (w : World) (hK : HKinds.k24.K w x cs.toList) (q : x.f2.size ≤ 140737488351232) (hs : s.size ≤ 140737488351232) (hT : Tab w) :
    Calls Tryd.prog 3 #[.agg cs, .string s, .int .i64 p] w fun e w' => e = .returned (.bool true) ∧ Below w.heap.size w w' := by
  have hcs := HKinds.k24_open hK
  obtain rfl : cs = #[.int .i64 x.f0, .int .u64 x.f1, .string x.f2] := by cases cs; simp_all
  exact frames x.f0 x.f1 x.f2 s p w hT q hs
end Go.Proofs.YtdepngppnbobdaaDoor.HFrames
