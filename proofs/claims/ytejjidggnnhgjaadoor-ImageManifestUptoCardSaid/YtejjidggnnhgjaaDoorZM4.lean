/- Texts of this seat laid together, what the statement needs of them: HImCm, HImDm, HImS, HImL, HImNm, HImBk, HImMk, HImS2, HImK, HImKe, HImEr, HImSm, HImEm, HImT, HImKd, HImLm, HOpen. -/
import Derived.Test.YtejjidggnnhgjaaDoorZM3
import Derived.ChangeAlike
import Derived.SizedLaws
import Derived.ChangeSlices
import Derived.Deep.Slices
/- The closure of DecodeManifest of layer 12, by the program. -/
set_option linter.unusedVariables false
set_option linter.unusedSimpArgs false
namespace Go.Proofs.YtejjidggnnhgjaaDoor.HImCm
open Go.RowKit Go.Proofs.YtejjidggnnhgjaaDoor.PImg Go.Proofs.YtejjidggnnhgjaaDoor.HBase Go.Proofs.YtejjidggnnhgjaaDoor.HBlob Go.Proofs.YtejjidggnnhgjaaDoor.HSum Go.Proofs.YtejjidggnnhgjaaDoor.HCk Go.Proofs.YtejjidggnnhgjaaDoor.HImgW Go.Proofs.YtejjidggnnhgjaaDoor.HImgR Go.Proofs.YtejjidggnnhgjaaDoor.HImgO Go.Proofs.YtejjidggnnhgjaaDoor.HImP Go.Proofs.YtejjidggnnhgjaaDoor.HImD Go.Proofs.YtejjidggnnhgjaaDoor.HImR2 Go.Proofs.YtejjidggnnhgjaaDoorW.PrintWords Go.Proofs.YtejjidggnnhgjaaDoorW.PrintLast Go.Proofs.YtejjidggnnhgjaaDoorW.PrintMore Go.Proofs.YtejjidggnnhgjaaDoor.HCore
def cells (r : Int × Int × Int × List SN) (u : Value) : Array Value := #[.int .i64 r.1, .int .i64 r.2.1, .int .u64 r.2.2.1, u]
/-- What the closure leaves. -/
def Left (w : World) (pb rb : Nat) (s : ByteArray) (D : Option ((Int × Int × Int × List SN) × Int)) (e : Ending) (w' : World) : Prop :=
  Two pb rb w w' ∧ match D with
  | some rq => e = .returned (.tuple #[]) ∧ w'.heap[rb]? = some (Rd s rq.2) ∧ ∃ u, w'.heap[pb]? = some (.cells (cells rq.1 u) 25 (0, 0)) ∧ Kd.R k36 36 w' w.heap.size (fun _ => True) u rq.1.2.2.2
  | none => e = gives
theorem Left.gone {w w' : World} {pb rb : Nat} {s : ByteArray} {D : Option ((Int × Int × Int × List SN) × Int)} (h : Two pb rb w w') (hD : D = none) : Left w pb rb s D gives w' := by subst hD; exact ⟨h, rfl⟩
theorem Left.read {w w' : World} {pb rb : Nat} {s : ByteArray} {D : Option ((Int × Int × Int × List SN) × Int)} {r : Int × Int × Int × List SN} {q : Int} {u : Value} (h : Two pb rb w w') (hD : D = some (r, q)) (h1 : w'.heap[rb]? = some (Rd s q)) (h2 : w'.heap[pb]? = some (.cells (cells r u) 25 (0, 0))) (h3 : Kd.R k36 36 w' w.heap.size (fun _ => True) u r.2.2.2) : Left w pb rb s D (.returned (.tuple #[])) w' := by subst hD; exact ⟨h, rfl, h1, u, h2, h3⟩
set_option maxRecDepth 100000 in
set_option maxHeartbeats 16000000 in
theorem inner (w : World) (pb rb : Nat) (s : ByteArray) (hs : s.size ≤ 4611686018427387904) (hpb : w.heap[pb]? = some (.cells #[.int .i64 0, .int .i64 0, .int .u64 0, .slice none 0 0] 25 (0, 0))) (hrb : w.heap[rb]? = some (Rd s 0)) (hne : pb ≠ rb) :
    Calls Tryd.prog 39 #[.pointer (some ⟨rb, 0, none⟩), .pointer (some ⟨pb, 0, none⟩)] w fun e w' => Left w pb rb s (dcN s) e w' := by
  have HT : Aside0 (St k36 36 25 w pb rb rb s 0 #[.int .i64 0, .int .i64 0, .int .u64 0, .slice none 0 0] (.slice none 0 0) [] w) := ⟨⟨Two.refl _ _ _, hpb, hrb, Kd.R_nil _ _ _ _ _, ⟨_, hpb⟩, ⟨_, hrb⟩, hne⟩⟩
  have HS := Aside0.mk hs
  have hD : dcN s = _ := rfl
  conv at hD => rhs; unfold dcN
  have HD := Aside0.mk hD
  clear hD hpb hrb hs
  go_enter Tryd.func39, Tryd.ntmps39
  go_wp2_with fail
  rcases hr_gen : nm s 0 99999999 with _ | ⟨gen, q_gen⟩
  · have HR := Aside0.mk hr_gen
    have hD := HD.out
    rw [hr_gen, Option.bind_none] at hD
    have HD := Aside0.mk hD
    clear hD hr_gen
    refine (num_gone rb s 0 _ HT.out.rdr HS.out _ HR.out).mono ?_
    rintro e wg ⟨he, hd⟩
    unfold gives at he
    subst he
    have HL := Aside0.mk (Left.gone (s := s) (HT.out.drawn hd).two HD.out)
    clear hd
    go_wp2
    exact ⟨rfl, HL.out⟩
  obtain ⟨gen_0, gen_1, gen_2, _⟩ := nm_drop hr_gen
  have HR := Aside0.mk hr_gen
  have hD := HD.out
  rw [hr_gen, Option.bind_some] at hD
  simp only at hD
  have HD := Aside0.mk hD
  clear hD hr_gen
  refine (num_ok rb s 0 _ HT.out.rdr HS.out _ _ _ HR.out).mono ?_
  rintro e w1 ⟨rfl, ht, hg⟩
  have HT := Aside0.mk (HT.out.reads ht hg)
  clear hg HR
  clear ht
  have c0 : _ = some (Value.int .i64 0) := (blk_cell HT.out.pair 0).trans rfl
  have c1 : _ = some (Value.int .i64 0) := (blk_cell HT.out.pair 1).trans rfl
  have c2 : _ = some (Value.int .u64 0) := (blk_cell HT.out.pair 2).trans rfl
  have c3 : _ = some (Value.slice none 0 0) := (blk_cell HT.out.pair 3).trans rfl
  have f0 := blk_frozen HT.out.pair 0
  have HT : Aside0 (St k36 36 25 w pb rb rb s q_gen #[.int .i64 gen, .int .i64 0, .int .u64 0, .slice none 0 0] (.slice none 0 0) [] (w1.setCell ⟨pb, 0, none⟩ (.int .i64 gen))) := ⟨HT.out.put 0 _⟩
  go_wp2_with fail
  rcases hr_next : nm s (q_gen) 100000000 with _ | ⟨next, q_next⟩
  · have HR := Aside0.mk hr_next
    have hD := HD.out
    rw [hr_next, Option.bind_none] at hD
    have HD := Aside0.mk hD
    clear hD hr_next
    refine (num_gone rb s (q_gen) _ HT.out.rdr HS.out _ HR.out).mono ?_
    rintro e wg ⟨he, hd⟩
    unfold gives at he
    subst he
    have HL := Aside0.mk (Left.gone (s := s) (HT.out.drawn hd).two HD.out)
    clear hd
    go_wp2
    exact ⟨rfl, HL.out⟩
  obtain ⟨next_0, next_1, next_2, _⟩ := nm_drop hr_next
  have HR := Aside0.mk hr_next
  have hD := HD.out
  rw [hr_next, Option.bind_some] at hD
  simp only at hD
  have HD := Aside0.mk hD
  clear hD hr_next
  clear c0 c1 c2 c3 f0
  refine (num_ok rb s (q_gen) _ HT.out.rdr HS.out _ _ _ HR.out).mono ?_
  rintro e w2 ⟨rfl, ht, hg⟩
  have HT := Aside0.mk (HT.out.reads ht hg)
  clear hg HR
  clear ht
  have c0 : _ = some (Value.int .i64 gen) := (blk_cell HT.out.pair 0).trans rfl
  have c1 : _ = some (Value.int .i64 0) := (blk_cell HT.out.pair 1).trans rfl
  have c2 : _ = some (Value.int .u64 0) := (blk_cell HT.out.pair 2).trans rfl
  have c3 : _ = some (Value.slice none 0 0) := (blk_cell HT.out.pair 3).trans rfl
  have f1 := blk_frozen HT.out.pair 1
  have HT : Aside0 (St k36 36 25 w pb rb rb s q_next #[.int .i64 gen, .int .i64 next, .int .u64 0, .slice none 0 0] (.slice none 0 0) [] (w2.setCell ⟨pb, 1, none⟩ (.int .i64 next))) := ⟨HT.out.put 1 _⟩
  go_wp2_with fail
  rcases hr_upto : nm s (q_next) 4611686018427387903 with _ | ⟨upto, q_upto⟩
  · have HR := Aside0.mk hr_upto
    have hD := HD.out
    rw [hr_upto, Option.bind_none] at hD
    have HD := Aside0.mk hD
    clear hD hr_upto
    refine (num_gone rb s (q_next) _ HT.out.rdr HS.out _ HR.out).mono ?_
    rintro e wg ⟨he, hd⟩
    unfold gives at he
    subst he
    have HL := Aside0.mk (Left.gone (s := s) (HT.out.drawn hd).two HD.out)
    clear hd
    go_wp2
    exact ⟨rfl, HL.out⟩
  obtain ⟨upto_0, upto_1, upto_2, _⟩ := nm_drop hr_upto
  have HR := Aside0.mk hr_upto
  have hD := HD.out
  rw [hr_upto, Option.bind_some] at hD
  simp only at hD
  have HD := Aside0.mk hD
  clear hD hr_upto
  clear c0 c1 c2 c3 f1
  refine (num_ok rb s (q_next) _ HT.out.rdr HS.out _ _ _ HR.out).mono ?_
  rintro e w3 ⟨rfl, ht, hg⟩
  have HT := Aside0.mk (HT.out.reads ht hg)
  clear hg HR
  clear ht
  have c0 : _ = some (Value.int .i64 gen) := (blk_cell HT.out.pair 0).trans rfl
  have c1 : _ = some (Value.int .i64 next) := (blk_cell HT.out.pair 1).trans rfl
  have c2 : _ = some (Value.int .u64 0) := (blk_cell HT.out.pair 2).trans rfl
  have c3 : _ = some (Value.slice none 0 0) := (blk_cell HT.out.pair 3).trans rfl
  have f2 := blk_frozen HT.out.pair 2
  have HT : Aside0 (St k36 36 25 w pb rb rb s q_upto #[.int .i64 gen, .int .i64 next, .int .u64 upto, .slice none 0 0] (.slice none 0 0) [] (w3.setCell ⟨pb, 2, none⟩ (.int .u64 upto))) := ⟨HT.out.put 2 _⟩
  go_wp2_with fail
  rcases hr_m : nm s (q_upto) 256 with _ | ⟨m, q_m⟩
  · have HR := Aside0.mk hr_m
    have hD := HD.out
    rw [hr_m, Option.bind_none] at hD
    have HD := Aside0.mk hD
    clear hD hr_m
    refine (num_gone rb s (q_upto) _ HT.out.rdr HS.out _ HR.out).mono ?_
    rintro e wg ⟨he, hd⟩
    unfold gives at he
    subst he
    have HL := Aside0.mk (Left.gone (s := s) (HT.out.drawn hd).two HD.out)
    clear hd
    go_wp2
    exact ⟨rfl, HL.out⟩
  obtain ⟨m_0, m_1, m_2, _⟩ := nm_drop hr_m
  have HR := Aside0.mk hr_m
  have hD := HD.out
  rw [hr_m, Option.bind_some] at hD
  simp only at hD
  have HD := Aside0.mk hD
  clear hD hr_m
  clear c0 c1 c2 c3 f2
  refine (num_ok rb s (q_upto) _ HT.out.rdr HS.out _ _ _ HR.out).mono ?_
  rintro e w4 ⟨rfl, ht, hg⟩
  have HT := Aside0.mk (HT.out.reads ht hg)
  clear hg HR
  clear ht
  have c0 : _ = some (Value.int .i64 gen) := (blk_cell HT.out.pair 0).trans rfl
  have c1 : _ = some (Value.int .i64 next) := (blk_cell HT.out.pair 1).trans rfl
  have c2 : _ = some (Value.int .u64 upto) := (blk_cell HT.out.pair 2).trans rfl
  have c3 : _ = some (Value.slice none 0 0) := (blk_cell HT.out.pair 3).trans rfl
  obtain ⟨m, rfl⟩ := Int.eq_ofNat_of_zero_le m_0
  rw [Int.toNat_natCast] at HD
  go_wp2
  clear c0 c1 c2 c3
  have mm : m ≤ 256 := by omega
  clear m_0 m_1 m_2
  go_loopw [3, 4] (fun v3 v4 wr => ∃ (m : Nat) (p last : Int) (u : Value) (l : List SN), v4 = .int .u64 (m : Int) ∧ v3 = .int .u64 last ∧ 0 ≤ last ∧ last ≤ 4611686018427387903 ∧ l.length + m ≤ 256 ∧ Aside0 (St k36 36 25 w pb rb rb s p #[.int .i64 gen, .int .i64 next, .int .u64 upto, u] u l wr) ∧ Aside0 (dcN s = (rn (rcN s) nxN m last p l).bind (fun r => if gdN gen next upto r.1 = true then some ((gen, next, upto, r.1), r.2) else none)) ∧ Aside0 (∀ x ∈ l, (Lit.int .i64 x.f0).wf = true)) (fun _ v4 _ => (intOf v4).toNat)
  case atStart => exact ⟨m, q_m, 0, _, [], rfl, rfl, by omega, by omega, by rw [List.length_nil]; omega, HT, HD, ⟨fun x hx => by cases hx⟩⟩
  case round =>
    clear HT HD mm
    obtain ⟨m, p, last, u, l, rfl, rfl, last_0, last_1, hl, HT, HD, HRg⟩ := hrel
    rcases m with _ | d
    · have hD := HD.out
      simp only [rn, Option.bind_some] at hD
      have HD := Aside0.mk hD
      clear hD
      obtain ⟨A, c, rfl, hc, hC⟩ := Kd.R_reads HT.out.own
      have HC := Aside0.mk hC
      clear hC
      have c0 : _ = some (Value.int .i64 gen) := (blk_cell HT.out.pair 0).trans rfl
      have c1 : _ = some (Value.int .i64 next) := (blk_cell HT.out.pair 1).trans rfl
      have c2 : _ = some (Value.int .u64 upto) := (blk_cell HT.out.pair 2).trans rfl
      have c3 : _ = some (Value.slice A l.length c) := (blk_cell HT.out.pair 3).trans rfl
      cases hgd : gdN gen next upto l
      · have hD := HD.out
        rw [hgd] at hD
        simp only [Bool.false_eq_true, if_false] at hD
        have HD := Aside0.mk hD
        clear hD
        have HK := Aside0.mk hgd
        clear hgd
        go_wp2_with fail
        clear c0 c1 c2 c3
        refine (HImGm.good_any gen next upto A c l _ HC.out hc (by omega) ?hr).mono ?_
        case hr => exact HRg.out
        rw [HK.out]
        rintro e wq ⟨rfl, hb⟩
        have HT := Aside0.mk (HT.out.below hb)
        clear hb HC HK
        go_wp2_with fail
        refine (need_gone _).mono ?_
        rintro e wz ⟨he, rfl⟩
        unfold gives at he
        subst he
        have HL := Aside0.mk (Left.gone (s := s) HT.out.two HD.out)
        go_wp2
        exact ⟨rfl, HL.out⟩
      · have hD := HD.out
        rw [hgd] at hD
        simp only [if_pos] at hD
        have HD := Aside0.mk hD
        clear hD
        have HK := Aside0.mk hgd
        clear hgd
        go_wp2_with fail
        clear c0 c1 c2 c3
        refine (HImGm.good_any gen next upto A c l _ HC.out hc (by omega) ?hr).mono ?_
        case hr => exact HRg.out
        rw [HK.out]
        rintro e wq ⟨rfl, hb⟩
        have HT := Aside0.mk (HT.out.below hb)
        clear hb HC HK
        go_wp2_with fail
        refine (need_ok _).mono ?_
        rintro e wz ⟨rfl, rfl⟩
        go_wp2
        go_end0
        exact Left.read HT.out.two HD.out HT.out.rdr HT.out.pair (Kd.R_mono HT.out.own (fun _ _ => trivial))
    have hD := HD.out
    simp only [rn, rcN, Option.bind_assoc, Option.bind_some] at hD
    have HD := Aside0.mk hD
    clear hD
    rw [show ((d + 1 : Nat) : Int) = (d : Int) + 1 by omega]
    have c0 : _ = some (Value.int .i64 gen) := (blk_cell HT.out.pair 0).trans rfl
    have c1 : _ = some (Value.int .i64 next) := (blk_cell HT.out.pair 1).trans rfl
    have c2 : _ = some (Value.int .u64 upto) := (blk_cell HT.out.pair 2).trans rfl
    have c3 : _ = some u := (blk_cell HT.out.pair 3).trans rfl
    go_wp2_with fail
    rcases hr_a : nm s p 99999999 with _ | ⟨a, q_a⟩
    · have HR := Aside0.mk hr_a
      have hD := HD.out
      rw [hr_a, Option.bind_none] at hD
      have HD := Aside0.mk hD
      clear hD hr_a
      refine (num_gone rb s p _ HT.out.rdr HS.out _ HR.out).mono ?_
      rintro e wg ⟨he, hd⟩
      unfold gives at he
      subst he
      have HL := Aside0.mk (Left.gone (s := s) (HT.out.drawn hd).two HD.out)
      clear hd
      go_wp2
      exact ⟨rfl, HL.out⟩
    obtain ⟨a_0, a_1, a_2, _⟩ := nm_drop hr_a
    have HR := Aside0.mk hr_a
    have hD := HD.out
    rw [hr_a, Option.bind_some] at hD
    simp only at hD
    have HD := Aside0.mk hD
    clear hD hr_a
    clear c0 c1 c2 c3
    refine (num_ok rb s p _ HT.out.rdr HS.out _ _ _ HR.out).mono ?_
    rintro e w5 ⟨rfl, ht, hg⟩
    have HT := Aside0.mk (HT.out.reads ht hg)
    clear hg HR
    clear ht
    have HV := Aside0.mk (heap_alloc_new w5 (.cells #[.int .i64 a, .int .u64 0, .int .u64 0, .int .i64 0, .int .i64 0, .int .i64 0, .int .u32 0, .int .u32 0] 36))
    have hnb : w.heap.size ≤ w5.heap.size := HT.out.two.size
    have hnr : w5.heap.size ≠ rb := Nat.ne_of_gt (blk_lt HT.out.rdr)
    have HT := Aside0.mk (HT.out.new (.cells #[.int .i64 a, .int .u64 0, .int .u64 0, .int .i64 0, .int .i64 0, .int .i64 0, .int .u32 0, .int .u32 0] 36))
    have c0 : _ = some (Value.int .i64 gen) := (blk_cell HT.out.pair 0).trans rfl
    have c1 : _ = some (Value.int .i64 next) := (blk_cell HT.out.pair 1).trans rfl
    have c2 : _ = some (Value.int .u64 upto) := (blk_cell HT.out.pair 2).trans rfl
    have c3 : _ = some u := (blk_cell HT.out.pair 3).trans rfl
    go_wp2_with fail
    rcases hr_b : nm s (q_a) (4611686018427387903 - last) with _ | ⟨b, q_b⟩
    · have HR := Aside0.mk hr_b
      have hD := HD.out
      rw [hr_b, Option.bind_none] at hD
      have HD := Aside0.mk hD
      clear hD hr_b
      refine (num_gone rb s (q_a) _ HT.out.rdr HS.out _ HR.out).mono ?_
      rintro e wg ⟨he, hd⟩
      unfold gives at he
      subst he
      have HL := Aside0.mk (Left.gone (s := s) (HT.out.drawn hd).two HD.out)
      clear hd
      go_wp2
      exact ⟨rfl, HL.out⟩
    obtain ⟨b_0, b_1, b_2, _⟩ := nm_drop hr_b
    have HR := Aside0.mk hr_b
    have hD := HD.out
    rw [hr_b, Option.bind_some] at hD
    simp only at hD
    have HD := Aside0.mk hD
    clear hD hr_b
    clear c0 c1 c2 c3
    refine (num_ok rb s (q_a) _ HT.out.rdr HS.out _ _ _ HR.out).mono ?_
    rintro e w6 ⟨rfl, ht, hg⟩
    have HT := Aside0.mk (HT.out.reads ht hg)
    clear hg HR
    have HV := Aside0.mk (ht.blk HV.out hnr)
    clear ht
    generalize w5.heap.size = nb at HV HT hnb hnr ⊢
    have y0 : _ = some (Value.int .i64 a) := (blk_cell HV.out 0).trans rfl
    have y1 : _ = some (Value.int .u64 0) := (blk_cell HV.out 1).trans rfl
    have y2 : _ = some (Value.int .u64 0) := (blk_cell HV.out 2).trans rfl
    have y3 : _ = some (Value.int .i64 0) := (blk_cell HV.out 3).trans rfl
    have y4 : _ = some (Value.int .i64 0) := (blk_cell HV.out 4).trans rfl
    have y5 : _ = some (Value.int .i64 0) := (blk_cell HV.out 5).trans rfl
    have y6 : _ = some (Value.int .u32 0) := (blk_cell HV.out 6).trans rfl
    have y7 : _ = some (Value.int .u32 0) := (blk_cell HV.out 7).trans rfl
    have g1 := blk_frozen HV.out 1
    have c0 : _ = some (Value.int .i64 gen) := (blk_cell HT.out.pair 0).trans rfl
    have c1 : _ = some (Value.int .i64 next) := (blk_cell HT.out.pair 1).trans rfl
    have c2 : _ = some (Value.int .u64 upto) := (blk_cell HT.out.pair 2).trans rfl
    have c3 : _ = some u := (blk_cell HT.out.pair 3).trans rfl
    have HV : Aside0 ((w6.setCell ⟨nb, 1, none⟩ (.int .u64 (last + b))).heap[nb]? = some (.cells #[.int .i64 a, .int .u64 (last + b), .int .u64 0, .int .i64 0, .int .i64 0, .int .i64 0, .int .u32 0, .int .u32 0] 36 (0, 0))) := ⟨(blk_set HV.out 1 (.int .u64 (last + b))).trans rfl⟩
    have HT := Aside0.mk (HT.out.far hnb 1 (.int .u64 (last + b)))
    rcases hr_c : nm s (q_b) (4611686018427387903 - (last + b)) with _ | ⟨c, q_c⟩
    · have HR := Aside0.mk hr_c
      have hD := HD.out
      rw [hr_c, Option.bind_none] at hD
      have HD := Aside0.mk hD
      clear hD hr_c
      go_upto_region 9 with (fail)
      clear y0 y1 y2 y3 y4 y5 y6 y7 g1
      have y0 : _ = some (Value.int .i64 a) := (blk_cell HV.out 0).trans rfl
      have y1 : _ = some (Value.int .u64 (last + b)) := (blk_cell HV.out 1).trans rfl
      have y2 : _ = some (Value.int .u64 0) := (blk_cell HV.out 2).trans rfl
      have y3 : _ = some (Value.int .i64 0) := (blk_cell HV.out 3).trans rfl
      have y4 : _ = some (Value.int .i64 0) := (blk_cell HV.out 4).trans rfl
      have y5 : _ = some (Value.int .i64 0) := (blk_cell HV.out 5).trans rfl
      have y6 : _ = some (Value.int .u32 0) := (blk_cell HV.out 6).trans rfl
      have y7 : _ = some (Value.int .u32 0) := (blk_cell HV.out 7).trans rfl
      have g2 := blk_frozen HV.out 2
      have hw1 : IntKind.u64.wrap (4611686018427387903 - (last + b)) = 4611686018427387903 - (last + b) := wu64 (by omega) (by omega)
      go_region_with (first | (go_at_call 40; refine num_fake rb s q_b _ (by first | exact HT.out.rdr | exact HT.out.drew.rdr) HS.out _ HR.out (fun wg hd => ⟨rfl, Left.gone (s := s) (HT.out.drew.drawn hd).two HD.out⟩) (fun HF => ?_)))
      all_goals exact HF.out.elim
    obtain ⟨c_0, c_1, c_2, _⟩ := nm_drop hr_c
    have HR := Aside0.mk hr_c
    have hD := HD.out
    rw [hr_c, Option.bind_some] at hD
    simp only at hD
    have HD := Aside0.mk hD
    clear hD hr_c
    go_upto_region 9 with (fail)
    clear y0 y1 y2 y3 y4 y5 y6 y7 g1
    have y0 : _ = some (Value.int .i64 a) := (blk_cell HV.out 0).trans rfl
    have y1 : _ = some (Value.int .u64 (last + b)) := (blk_cell HV.out 1).trans rfl
    have y2 : _ = some (Value.int .u64 0) := (blk_cell HV.out 2).trans rfl
    have y3 : _ = some (Value.int .i64 0) := (blk_cell HV.out 3).trans rfl
    have y4 : _ = some (Value.int .i64 0) := (blk_cell HV.out 4).trans rfl
    have y5 : _ = some (Value.int .i64 0) := (blk_cell HV.out 5).trans rfl
    have y6 : _ = some (Value.int .u32 0) := (blk_cell HV.out 6).trans rfl
    have y7 : _ = some (Value.int .u32 0) := (blk_cell HV.out 7).trans rfl
    have g2 := blk_frozen HV.out 2
    go_cut [] (fun wx => Aside0 (St k36 36 25 w pb rb nb s q_c #[.int .i64 gen, .int .i64 next, .int .u64 upto, u] u l wx) ∧ Aside0 (wx.heap[nb]? = some (.cells #[.int .i64 a, .int .u64 (last + b), .int .u64 (last + b + c), .int .i64 0, .int .i64 0, .int .i64 0, .int .u32 0, .int .u32 0] 36 (0, 0))))
    case first =>
      have hw1 : IntKind.u64.wrap (4611686018427387903 - (last + b)) = 4611686018427387903 - (last + b) := wu64 (by omega) (by omega)
      have hw2 : IntKind.u64.wrap (last + b + c) = last + b + c := wu64 (by omega) (by omega)
      go_region_with (first | (go_at_call 40; refine (num_ok rb s q_b _ (by first | exact HT.out.rdr | exact HT.out.drew.rdr) HS.out _ _ _ HR.out).mono ?_; rintro e wk ⟨rfl, ht, hg⟩; have HT2 := Aside0.mk (HT.out.drew.reads ht hg); have HV2 := Aside0.mk (ht.blk (show _ = some _ from HV.out) hnr); have z1 : _ = some (Value.int .u64 (last + b)) := (blk_cell HV2.out 1).trans rfl; have z2 : _ = some (Value.int .u64 0) := (blk_cell HV2.out 2).trans rfl; have zf := blk_frozen HV2.out 2; clear ht hg))
      all_goals (go_wp2_with fail; go_meet; case rel => exact ⟨⟨HT2.out.far hnb 2 _⟩, ⟨(blk_set HV2.out 2 _).trans rfl⟩⟩)
    clear y0 y1 y2 y3 y4 y5 y6 y7 g2
    clear c0 c1 c2 c3
    obtain ⟨HT, HV⟩ := hcut
    obtain ⟨w7, rfl⟩ : ∃ x, x = wc := ⟨_, rfl⟩
    clear HR
    have y0 : _ = some (Value.int .i64 a) := (blk_cell HV.out 0).trans rfl
    have y1 : _ = some (Value.int .u64 (last + b)) := (blk_cell HV.out 1).trans rfl
    have y2 : _ = some (Value.int .u64 (last + b + c)) := (blk_cell HV.out 2).trans rfl
    have y3 : _ = some (Value.int .i64 0) := (blk_cell HV.out 3).trans rfl
    have y4 : _ = some (Value.int .i64 0) := (blk_cell HV.out 4).trans rfl
    have y5 : _ = some (Value.int .i64 0) := (blk_cell HV.out 5).trans rfl
    have y6 : _ = some (Value.int .u32 0) := (blk_cell HV.out 6).trans rfl
    have y7 : _ = some (Value.int .u32 0) := (blk_cell HV.out 7).trans rfl
    have c0 : _ = some (Value.int .i64 gen) := (blk_cell HT.out.pair 0).trans rfl
    have c1 : _ = some (Value.int .i64 next) := (blk_cell HT.out.pair 1).trans rfl
    have c2 : _ = some (Value.int .u64 upto) := (blk_cell HT.out.pair 2).trans rfl
    have c3 : _ = some u := (blk_cell HT.out.pair 3).trans rfl
    go_wp2_with fail
    clear y0 y1 y2 y3 y4 y5 y6 y7
    clear c0 c1 c2 c3
    rcases hr_d3 : nm s (q_c) 65536 with _ | ⟨d3, q_d3⟩
    · have HR := Aside0.mk hr_d3
      have hD := HD.out
      rw [hr_d3, Option.bind_none] at hD
      have HD := Aside0.mk hD
      clear hD hr_d3
      refine (num_gone rb s (q_c) _ HT.out.rdr HS.out _ HR.out).mono ?_
      rintro e wg ⟨he, hd⟩
      unfold gives at he
      subst he
      have HL := Aside0.mk (Left.gone (s := s) (HT.out.drawn hd).two HD.out)
      clear hd
      go_wp2
      exact ⟨rfl, HL.out⟩
    obtain ⟨d3_0, d3_1, d3_2, _⟩ := nm_drop hr_d3
    have HR := Aside0.mk hr_d3
    have hD := HD.out
    rw [hr_d3, Option.bind_some] at hD
    simp only at hD
    have HD := Aside0.mk hD
    clear hD hr_d3
    refine (num_ok rb s (q_c) _ HT.out.rdr HS.out _ _ _ HR.out).mono ?_
    rintro e w8 ⟨rfl, ht, hg⟩
    have HT := Aside0.mk (HT.out.reads ht hg)
    clear hg HR
    have HV := Aside0.mk (ht.blk HV.out hnr)
    clear ht
    have y0 : _ = some (Value.int .i64 a) := (blk_cell HV.out 0).trans rfl
    have y1 : _ = some (Value.int .u64 (last + b)) := (blk_cell HV.out 1).trans rfl
    have y2 : _ = some (Value.int .u64 (last + b + c)) := (blk_cell HV.out 2).trans rfl
    have y3 : _ = some (Value.int .i64 0) := (blk_cell HV.out 3).trans rfl
    have y4 : _ = some (Value.int .i64 0) := (blk_cell HV.out 4).trans rfl
    have y5 : _ = some (Value.int .i64 0) := (blk_cell HV.out 5).trans rfl
    have y6 : _ = some (Value.int .u32 0) := (blk_cell HV.out 6).trans rfl
    have y7 : _ = some (Value.int .u32 0) := (blk_cell HV.out 7).trans rfl
    have g3 := blk_frozen HV.out 3
    have c0 : _ = some (Value.int .i64 gen) := (blk_cell HT.out.pair 0).trans rfl
    have c1 : _ = some (Value.int .i64 next) := (blk_cell HT.out.pair 1).trans rfl
    have c2 : _ = some (Value.int .u64 upto) := (blk_cell HT.out.pair 2).trans rfl
    have c3 : _ = some u := (blk_cell HT.out.pair 3).trans rfl
    have HV : Aside0 ((w8.setCell ⟨nb, 3, none⟩ (.int .i64 d3)).heap[nb]? = some (.cells #[.int .i64 a, .int .u64 (last + b), .int .u64 (last + b + c), .int .i64 d3, .int .i64 0, .int .i64 0, .int .u32 0, .int .u32 0] 36 (0, 0))) := ⟨(blk_set HV.out 3 (.int .i64 d3)).trans rfl⟩
    have HT := Aside0.mk (HT.out.far hnb 3 (.int .i64 d3))
    go_wp2_with fail
    clear y0 y1 y2 y3 y4 y5 y6 y7 g3
    clear c0 c1 c2 c3
    rcases hr_d4 : nm s (q_d3) 99999999 with _ | ⟨d4, q_d4⟩
    · have HR := Aside0.mk hr_d4
      have hD := HD.out
      rw [hr_d4, Option.bind_none] at hD
      have HD := Aside0.mk hD
      clear hD hr_d4
      refine (num_gone rb s (q_d3) _ HT.out.rdr HS.out _ HR.out).mono ?_
      rintro e wg ⟨he, hd⟩
      unfold gives at he
      subst he
      have HL := Aside0.mk (Left.gone (s := s) (HT.out.drawn hd).two HD.out)
      clear hd
      go_wp2
      exact ⟨rfl, HL.out⟩
    obtain ⟨d4_0, d4_1, d4_2, _⟩ := nm_drop hr_d4
    have HR := Aside0.mk hr_d4
    have hD := HD.out
    rw [hr_d4, Option.bind_some] at hD
    simp only at hD
    have HD := Aside0.mk hD
    clear hD hr_d4
    refine (num_ok rb s (q_d3) _ HT.out.rdr HS.out _ _ _ HR.out).mono ?_
    rintro e w9 ⟨rfl, ht, hg⟩
    have HT := Aside0.mk (HT.out.reads ht hg)
    clear hg HR
    have HV := Aside0.mk (ht.blk HV.out hnr)
    clear ht
    have y0 : _ = some (Value.int .i64 a) := (blk_cell HV.out 0).trans rfl
    have y1 : _ = some (Value.int .u64 (last + b)) := (blk_cell HV.out 1).trans rfl
    have y2 : _ = some (Value.int .u64 (last + b + c)) := (blk_cell HV.out 2).trans rfl
    have y3 : _ = some (Value.int .i64 d3) := (blk_cell HV.out 3).trans rfl
    have y4 : _ = some (Value.int .i64 0) := (blk_cell HV.out 4).trans rfl
    have y5 : _ = some (Value.int .i64 0) := (blk_cell HV.out 5).trans rfl
    have y6 : _ = some (Value.int .u32 0) := (blk_cell HV.out 6).trans rfl
    have y7 : _ = some (Value.int .u32 0) := (blk_cell HV.out 7).trans rfl
    have g4 := blk_frozen HV.out 4
    have c0 : _ = some (Value.int .i64 gen) := (blk_cell HT.out.pair 0).trans rfl
    have c1 : _ = some (Value.int .i64 next) := (blk_cell HT.out.pair 1).trans rfl
    have c2 : _ = some (Value.int .u64 upto) := (blk_cell HT.out.pair 2).trans rfl
    have c3 : _ = some u := (blk_cell HT.out.pair 3).trans rfl
    have HV : Aside0 ((w9.setCell ⟨nb, 4, none⟩ (.int .i64 d4)).heap[nb]? = some (.cells #[.int .i64 a, .int .u64 (last + b), .int .u64 (last + b + c), .int .i64 d3, .int .i64 d4, .int .i64 0, .int .u32 0, .int .u32 0] 36 (0, 0))) := ⟨(blk_set HV.out 4 (.int .i64 d4)).trans rfl⟩
    have HT := Aside0.mk (HT.out.far hnb 4 (.int .i64 d4))
    go_wp2_with fail
    clear y0 y1 y2 y3 y4 y5 y6 y7 g4
    clear c0 c1 c2 c3
    rcases hr_d5 : nm s (q_d4) 65536 with _ | ⟨d5, q_d5⟩
    · have HR := Aside0.mk hr_d5
      have hD := HD.out
      rw [hr_d5, Option.bind_none] at hD
      have HD := Aside0.mk hD
      clear hD hr_d5
      refine (num_gone rb s (q_d4) _ HT.out.rdr HS.out _ HR.out).mono ?_
      rintro e wg ⟨he, hd⟩
      unfold gives at he
      subst he
      have HL := Aside0.mk (Left.gone (s := s) (HT.out.drawn hd).two HD.out)
      clear hd
      go_wp2
      exact ⟨rfl, HL.out⟩
    obtain ⟨d5_0, d5_1, d5_2, _⟩ := nm_drop hr_d5
    have HR := Aside0.mk hr_d5
    have hD := HD.out
    rw [hr_d5, Option.bind_some] at hD
    simp only at hD
    have HD := Aside0.mk hD
    clear hD hr_d5
    refine (num_ok rb s (q_d4) _ HT.out.rdr HS.out _ _ _ HR.out).mono ?_
    rintro e w10 ⟨rfl, ht, hg⟩
    have HT := Aside0.mk (HT.out.reads ht hg)
    clear hg HR
    have HV := Aside0.mk (ht.blk HV.out hnr)
    clear ht
    have y0 : _ = some (Value.int .i64 a) := (blk_cell HV.out 0).trans rfl
    have y1 : _ = some (Value.int .u64 (last + b)) := (blk_cell HV.out 1).trans rfl
    have y2 : _ = some (Value.int .u64 (last + b + c)) := (blk_cell HV.out 2).trans rfl
    have y3 : _ = some (Value.int .i64 d3) := (blk_cell HV.out 3).trans rfl
    have y4 : _ = some (Value.int .i64 d4) := (blk_cell HV.out 4).trans rfl
    have y5 : _ = some (Value.int .i64 0) := (blk_cell HV.out 5).trans rfl
    have y6 : _ = some (Value.int .u32 0) := (blk_cell HV.out 6).trans rfl
    have y7 : _ = some (Value.int .u32 0) := (blk_cell HV.out 7).trans rfl
    have g5 := blk_frozen HV.out 5
    have c0 : _ = some (Value.int .i64 gen) := (blk_cell HT.out.pair 0).trans rfl
    have c1 : _ = some (Value.int .i64 next) := (blk_cell HT.out.pair 1).trans rfl
    have c2 : _ = some (Value.int .u64 upto) := (blk_cell HT.out.pair 2).trans rfl
    have c3 : _ = some u := (blk_cell HT.out.pair 3).trans rfl
    have HV : Aside0 ((w10.setCell ⟨nb, 5, none⟩ (.int .i64 d5)).heap[nb]? = some (.cells #[.int .i64 a, .int .u64 (last + b), .int .u64 (last + b + c), .int .i64 d3, .int .i64 d4, .int .i64 d5, .int .u32 0, .int .u32 0] 36 (0, 0))) := ⟨(blk_set HV.out 5 (.int .i64 d5)).trans rfl⟩
    have HT := Aside0.mk (HT.out.far hnb 5 (.int .i64 d5))
    go_wp2_with fail
    clear y0 y1 y2 y3 y4 y5 y6 y7 g5
    clear c0 c1 c2 c3
    rcases hr_d6 : sm s (q_d5) with _ | ⟨d6, q_d6⟩
    · have HR := Aside0.mk hr_d6
      have hD := HD.out
      rw [hr_d6, Option.bind_none] at hD
      have HD := Aside0.mk hD
      clear hD hr_d6
      refine (smm_gone rb s (q_d5) _ HT.out.rdr HS.out HR.out).mono ?_
      rintro e wg ⟨he, hd⟩
      unfold gives at he
      subst he
      have HL := Aside0.mk (Left.gone (s := s) (HT.out.drawn hd).two HD.out)
      clear hd
      go_wp2
      exact ⟨rfl, HL.out⟩
    obtain ⟨d6_0, d6_1, _⟩ := sm_drop hr_d6
    have HR := Aside0.mk hr_d6
    have hD := HD.out
    rw [hr_d6, Option.bind_some] at hD
    simp only at hD
    have HD := Aside0.mk hD
    clear hD hr_d6
    refine (smm_ok rb s (q_d5) _ HT.out.rdr HS.out _ _ HR.out).mono ?_
    rintro e w11 ⟨rfl, ht, hg⟩
    have HT := Aside0.mk (HT.out.reads ht hg)
    clear hg HR
    have HV := Aside0.mk (ht.blk HV.out hnr)
    clear ht
    have y0 : _ = some (Value.int .i64 a) := (blk_cell HV.out 0).trans rfl
    have y1 : _ = some (Value.int .u64 (last + b)) := (blk_cell HV.out 1).trans rfl
    have y2 : _ = some (Value.int .u64 (last + b + c)) := (blk_cell HV.out 2).trans rfl
    have y3 : _ = some (Value.int .i64 d3) := (blk_cell HV.out 3).trans rfl
    have y4 : _ = some (Value.int .i64 d4) := (blk_cell HV.out 4).trans rfl
    have y5 : _ = some (Value.int .i64 d5) := (blk_cell HV.out 5).trans rfl
    have y6 : _ = some (Value.int .u32 0) := (blk_cell HV.out 6).trans rfl
    have y7 : _ = some (Value.int .u32 0) := (blk_cell HV.out 7).trans rfl
    have g6 := blk_frozen HV.out 6
    have c0 : _ = some (Value.int .i64 gen) := (blk_cell HT.out.pair 0).trans rfl
    have c1 : _ = some (Value.int .i64 next) := (blk_cell HT.out.pair 1).trans rfl
    have c2 : _ = some (Value.int .u64 upto) := (blk_cell HT.out.pair 2).trans rfl
    have c3 : _ = some u := (blk_cell HT.out.pair 3).trans rfl
    have HV : Aside0 ((w11.setCell ⟨nb, 6, none⟩ (.int .u32 d6)).heap[nb]? = some (.cells #[.int .i64 a, .int .u64 (last + b), .int .u64 (last + b + c), .int .i64 d3, .int .i64 d4, .int .i64 d5, .int .u32 d6, .int .u32 0] 36 (0, 0))) := ⟨(blk_set HV.out 6 (.int .u32 d6)).trans rfl⟩
    have HT := Aside0.mk (HT.out.far hnb 6 (.int .u32 d6))
    go_wp2_with fail
    clear y0 y1 y2 y3 y4 y5 y6 y7 g6
    clear c0 c1 c2 c3
    rcases hr_d7 : sm s (q_d6) with _ | ⟨d7, q_d7⟩
    · have HR := Aside0.mk hr_d7
      have hD := HD.out
      rw [hr_d7, Option.bind_none] at hD
      have HD := Aside0.mk hD
      clear hD hr_d7
      refine (smm_gone rb s (q_d6) _ HT.out.rdr HS.out HR.out).mono ?_
      rintro e wg ⟨he, hd⟩
      unfold gives at he
      subst he
      have HL := Aside0.mk (Left.gone (s := s) (HT.out.drawn hd).two HD.out)
      clear hd
      go_wp2
      exact ⟨rfl, HL.out⟩
    obtain ⟨d7_0, d7_1, _⟩ := sm_drop hr_d7
    have HR := Aside0.mk hr_d7
    have hD := HD.out
    rw [hr_d7, Option.bind_some] at hD
    simp only at hD
    have HD := Aside0.mk hD
    clear hD hr_d7
    refine (smm_ok rb s (q_d6) _ HT.out.rdr HS.out _ _ HR.out).mono ?_
    rintro e w12 ⟨rfl, ht, hg⟩
    have HT := Aside0.mk (HT.out.reads ht hg)
    clear hg HR
    have HV := Aside0.mk (ht.blk HV.out hnr)
    clear ht
    have y0 : _ = some (Value.int .i64 a) := (blk_cell HV.out 0).trans rfl
    have y1 : _ = some (Value.int .u64 (last + b)) := (blk_cell HV.out 1).trans rfl
    have y2 : _ = some (Value.int .u64 (last + b + c)) := (blk_cell HV.out 2).trans rfl
    have y3 : _ = some (Value.int .i64 d3) := (blk_cell HV.out 3).trans rfl
    have y4 : _ = some (Value.int .i64 d4) := (blk_cell HV.out 4).trans rfl
    have y5 : _ = some (Value.int .i64 d5) := (blk_cell HV.out 5).trans rfl
    have y6 : _ = some (Value.int .u32 d6) := (blk_cell HV.out 6).trans rfl
    have y7 : _ = some (Value.int .u32 0) := (blk_cell HV.out 7).trans rfl
    have g7 := blk_frozen HV.out 7
    have c0 : _ = some (Value.int .i64 gen) := (blk_cell HT.out.pair 0).trans rfl
    have c1 : _ = some (Value.int .i64 next) := (blk_cell HT.out.pair 1).trans rfl
    have c2 : _ = some (Value.int .u64 upto) := (blk_cell HT.out.pair 2).trans rfl
    have c3 : _ = some u := (blk_cell HT.out.pair 3).trans rfl
    have HV : Aside0 ((w12.setCell ⟨nb, 7, none⟩ (.int .u32 d7)).heap[nb]? = some (.cells #[.int .i64 a, .int .u64 (last + b), .int .u64 (last + b + c), .int .i64 d3, .int .i64 d4, .int .i64 d5, .int .u32 d6, .int .u32 d7] 36 (0, 0))) := ⟨(blk_set HV.out 7 (.int .u32 d7)).trans rfl⟩
    have HT := Aside0.mk (HT.out.far hnb 7 (.int .u32 d7))
    have HW : Aside0 (∃ W, W = w12.setCell ⟨nb, 7, none⟩ (.int .u32 d7)) := ⟨_, rfl⟩
    clear HW
    go_upto_region 15 with (fail)
    clear y0 y1 y2 y3 y4 y5 y6 y7 g7
    clear c0 c1 c2 c3
    have y0 : _ = some (Value.int .i64 a) := (blk_cell HV.out 0).trans rfl
    have y1 : _ = some (Value.int .u64 (last + b)) := (blk_cell HV.out 1).trans rfl
    have y2 : _ = some (Value.int .u64 (last + b + c)) := (blk_cell HV.out 2).trans rfl
    have y3 : _ = some (Value.int .i64 d3) := (blk_cell HV.out 3).trans rfl
    have y4 : _ = some (Value.int .i64 d4) := (blk_cell HV.out 4).trans rfl
    have y5 : _ = some (Value.int .i64 d5) := (blk_cell HV.out 5).trans rfl
    have y6 : _ = some (Value.int .u32 d6) := (blk_cell HV.out 6).trans rfl
    have y7 : _ = some (Value.int .u32 d7) := (blk_cell HV.out 7).trans rfl
    have c0 : _ = some (Value.int .i64 gen) := (blk_cell HT.out.pair 0).trans rfl
    have c1 : _ = some (Value.int .i64 next) := (blk_cell HT.out.pair 1).trans rfl
    have c2 : _ = some (Value.int .u64 upto) := (blk_cell HT.out.pair 2).trans rfl
    have c3 : _ = some u := (blk_cell HT.out.pair 3).trans rfl
    have f3 := blk_frozen HT.out.pair 3
    have HTo := HT
    go_wp2_with ((with_reducible refine gate_builtin (b := .append) (xs := #[.tmp 64, .tmp 66]) rfl ?_); go_loud (at_builtin; refine Kd.R_append k36 (w0 := w12.setCell ⟨nb, 7, none⟩ (.int .u32 d7)) w.heap.size rfl (.tmp 64) (.tmp 66) 23 36 (.agg #[.int .i64 0, .int .u64 0, .int .u64 0, .int .i64 0, .int .i64 0, .int .i64 0, .int .u32 0, .int .u32 0]) 56 rfl Tryd.underlying23 info36 rfl (by decide) (by omega) u l (⟨a, last + b, last + b + c, d3, d4, d5, d6, d7⟩ : SN) [.int .i64 a, .int .u64 (last + b), .int .u64 (last + b + c), .int .i64 d3, .int .i64 d4, .int .i64 d5, .int .u32 d6, .int .u32 d7] (fun k => k ≠ nb) (fun _ => False) rfl (by first | (go_simp; done) | (go_simp; rfl)) ?aP (fun _ hk => hk.elim) ?aF ?aO ?aB ?aS ?aL ?_; (case aP => exact k36_mkM _ _ _ (⟨a, last + b, last + b + c, d3, d4, d5, d6, d7⟩ : SN)); (case aF => exact (fun k hk => Nat.ne_of_gt (Nat.lt_of_lt_of_le (blk_lt HV.out) hk))); (case aO => exact HT.out.own); (case aB => exact Below.refl _ _); (case aS => exact HT.out.two.size); (case aL => omega); clear c0 c1 c2 c3 f3 y0 y1 y2 y3 y4 y5 y6 y7; intro u' w99 ho hb hg hat; obtain ⟨A', c', rfl⟩ := Kd.R_slice ho; have HT := Aside0.mk (HT.out.more hb hg ho 3); have c3 : _ = some u := (blk_cell ((hb.block _ (blk_lt HT.out.elp.choose_spec)).trans HTo.out.pair) 3).trans rfl; have f3 := blk_frozen ((hb.block _ (blk_lt HT.out.elp.choose_spec)).trans HTo.out.pair) 3; clear ho hb hg hat))
    have hlen : (l ++ [(⟨a, last + b, last + b + c, d3, d4, d5, d6, d7⟩ : SN)]).length = l.length + 1 := by rw [List.length_append, List.length_singleton]
    rw [hlen] at HT
    clear hlen
    go_roundw
    case rel => exact ⟨d, q_d7, last + b + c, .slice A' (l.length + 1) c', l ++ [(⟨a, last + b, last + b + c, d3, d4, d5, d6, d7⟩ : SN)], by go_num, rfl, by omega, by omega, by rw [List.length_append, List.length_singleton]; omega, ⟨HT.out.free⟩, HD, ⟨fun y hy => by rcases List.mem_append.1 hy with h | h; exact HRg.out y h; rw [List.mem_singleton.1 h]; unfold Lit.wf; simp only [Bool.and_eq_true, decide_eq_true_eq]; simp only [IntKind.min, IntKind.max, IntKind.bits, IntKind.signed]; omega⟩⟩
    case measure => simp [intOf]
end Go.Proofs.YtejjidggnnhgjaaDoor.HImCm
/- DecodeManifest of layer 12, by the program. -/
set_option linter.unusedVariables false
set_option linter.unusedSimpArgs false
namespace Go.Proofs.YtejjidggnnhgjaaDoor.HImDm
open Go.RowKit Go.Proofs.YtejjidggnnhgjaaDoor.PImg Go.Proofs.YtejjidggnnhgjaaDoor.HBase Go.Proofs.YtejjidggnnhgjaaDoor.HBlob Go.Proofs.YtejjidggnnhgjaaDoor.HSum Go.Proofs.YtejjidggnnhgjaaDoor.HCk Go.Proofs.YtejjidggnnhgjaaDoor.HImgW Go.Proofs.YtejjidggnnhgjaaDoor.HImgR Go.Proofs.YtejjidggnnhgjaaDoor.HImgO Go.Proofs.YtejjidggnnhgjaaDoor.HImP Go.Proofs.YtejjidggnnhgjaaDoor.HImD Go.Proofs.YtejjidggnnhgjaaDoor.HImE Go.Proofs.YtejjidggnnhgjaaDoor.HImR2 Go.Proofs.YtejjidggnnhgjaaDoor.HImCm Go.Proofs.YtejjidggnnhgjaaDoorW.PrintWords Go.Proofs.YtejjidggnnhgjaaDoorW.PrintLast Go.Proofs.YtejjidggnnhgjaaDoorW.PrintMore Go.Proofs.YtejjidggnnhgjaaDoor.HCore
/-- What a file is read as, and the error. -/
def res (b : ByteArray) : Option (Int × Int × Int × List SN) := if opn b ltN = 0 then (dcN (ins b)).bind fun x => if x.2 = ((ins b).size : Int) then some x.1 else none else none
def val (b : ByteArray) : Int × Int × Int × List SN := (res b).getD (0, 0, 0, [])
def code (b : ByteArray) : Int := if opn b ltN = 0 then (if (res b).isSome then 0 else 125) else opn b ltN
theorem out_val {b : ByteArray} (h : ¬ opn b ltN = 0) : val b = (0, 0, 0, []) ∧ code b = opn b ltN := by unfold val code res; rw [if_neg h, if_neg h]; exact ⟨rfl, rfl⟩
theorem none_val {b : ByteArray} (h : opn b ltN = 0) (hd : dcN (ins b) = none) : val b = (0, 0, 0, []) ∧ code b = 125 := by unfold val code res; rw [if_pos h, if_pos h, hd]; exact ⟨rfl, rfl⟩
theorem short_val {b : ByteArray} {x : (Int × Int × Int × List SN) × Int} (h : opn b ltN = 0) (hd : dcN (ins b) = some x) (hx : ¬ x.2 = ((ins b).size : Int)) : val b = (0, 0, 0, []) ∧ code b = 125 := by unfold val code res; rw [if_pos h, if_pos h, hd, Option.bind_some, if_neg hx]; exact ⟨rfl, rfl⟩
theorem some_val {b : ByteArray} {x : (Int × Int × Int × List SN) × Int} (h : opn b ltN = 0) (hd : dcN (ins b) = some x) (hx : x.2 = ((ins b).size : Int)) : val b = x.1 ∧ code b = 0 := by unfold val code res; rw [if_pos h, if_pos h, hd, Option.bind_some, if_pos hx]; exact ⟨rfl, rfl⟩
theorem ins_le (b : ByteArray) (hb : b.size ≤ 140737488355328) : (ins b).size ≤ 4611686018427387904 := by
  unfold ins
  rw [← size_list, extract_list, extract_list, List.length_take, List.length_drop, List.length_take, List.drop_zero, size_list]
  omega
/-- What stands around the closure. -/
def Qc (w2 : World) (pb : Nat) (b : ByteArray) (W1 : World) (rb : Nat) (e0 : Ending) (w1 : World) : Prop :=
  Below w2.heap.size w2 W1 ∧ w2.heap.size < rb ∧ W1.heap[w2.heap.size]? = some (.cells #[.int .i64 0] 27 (0, 0)) ∧ HImCm.Left W1 pb rb (ins b) (dcN (ins b)) e0 w1
theorem left_or {w w' : World} {pb rb : Nat} {s : ByteArray} {D : Option ((Int × Int × Int × List SN) × Int)} {e : Ending} (h : HImCm.Left w pb rb s D e w') : e = gives ∨ (e = .returned (.tuple #[]) ∧ ∃ q, w'.heap[rb]? = some (Rd s q)) := by
  obtain ⟨_, h⟩ := h
  cases D with
  | none => exact Or.inl h
  | some r => exact Or.inr ⟨h.1, _, h.2.1⟩
set_option maxRecDepth 100000 in
set_option maxHeartbeats 8000000 in
theorem dec_any (b : ByteArray) (w : World) (hb : b.size ≤ 140737488355328) (hT : Tab w) :
    Calls Tryd.prog 12 #[.string b] w fun e w' => ∃ u, e = .returned (.tuple #[.agg (cells (val b) u), .int .i64 (code b)]) ∧ Kd.R k36 36 w' w.heap.size (fun _ => True) u (val b).2.2.2 ∧ Below w.heap.size w w' := by
  obtain ⟨w2, e2⟩ : ∃ w2, w2 = (w.alloc (.cells #[.int .i64 0, .int .i64 0, .int .u64 0, .slice none 0 0] 25)).alloc (.cells #[.int .i64 0, .int .i64 0, .int .u64 0, .slice none 0 0] 25) := ⟨_, rfl⟩
  have z2 : w2.heap.size = w.heap.size + 2 := by rw [e2]; simp
  have b0 : w2.heap[w.heap.size]? = some (.cells #[.int .i64 0, .int .i64 0, .int .u64 0, .slice none 0 0] 25 (0, 0)) := by rw [e2]; exact (heap_alloc_old _ _ (by simp)).trans (heap_alloc_new _ _)
  have b1 : w2.heap[w.heap.size + 1]? = some (.cells #[.int .i64 0, .int .i64 0, .int .u64 0, .slice none 0 0] 25 (0, 0)) := by rw [e2]; simpa using heap_alloc_new (w.alloc (.cells #[.int .i64 0, .int .i64 0, .int .u64 0, .slice none 0 0] 25)) (.cells #[.int .i64 0, .int .i64 0, .int .u64 0, .slice none 0 0] 25)
  have hb2 : Below w.heap.size w w2 := by rw [e2]; exact below_alloc (below_alloc (Below.refl _ _) _) _
  have HB := Aside0.mk hb2
  have HT := Aside0.mk (hT.below hb2)
  have E2 := Aside0.mk e2
  have HZ := Aside0.mk z2
  have hmf : ∀ (fn : Fn) (first cap : Array Value) (w : World), (Instr.makeFunc fn first cap).run Tryd.prog w = .ok (.func fn first cap) w := fun _ _ _ _ => rfl
  by_cases ho : opn b ltN = 0
  · have HI := Aside0.mk (man_in b ltN #[.pointer (some ⟨w.heap.size + 1, 0, none⟩)] w2 hb HT.out ho (Qc w2 (w.heap.size + 1) b)
      (fun W1 rb h1 h2 h3 h4 => (inner W1 (w.heap.size + 1) rb (ins b) (ins_le b hb) ((h1.block _ (by omega)).trans b1) h3 (by omega)).mono (fun e w' hl => ⟨h1, h2, h4, hl⟩))
      (fun W1 rb e0 w1 h => ⟨(h.2.2.2.1.block _ (blk_lt h.2.2.1) (by omega) (by have := h.2.1; omega)).trans h.2.2.1, left_or h.2.2.2⟩))
    have H0 := Aside0.mk b0
    have HO0 := Aside0.mk ho
    clear b0 b1 z2 e2 hb2 hT ho
    go_enter Tryd.func12, Tryd.ntmps12
    go_wp2_with fail
    rw [← E2.out]
    refine HI.out.mono ?_
    rintro e w4 ⟨c, rfl, W1, rb, e0, w1, ⟨h1, h2, h3, hL⟩, _, hTn, hor⟩
    have hz := HZ.out
    have hz1 := h1.size
    have hz2 := hL.1.size
    have r1 : w4.heap[w.heap.size]? = some (.cells #[.int .i64 0, .int .i64 0, .int .u64 0, .slice none 0 0] 25 (0, 0)) := hTn.blk ((hL.1.block _ (by omega) (by omega) (by omega)).trans ((h1.block _ (by omega)).trans H0.out)) (by omega)
    have hB4 : Below w.heap.size w w4 := (HB.out.trans (h1.mono (by omega))).trans ⟨hTn.os.trans hL.1.os, hTn.tape.trans hL.1.tape, hTn.output.trans hL.1.output, Nat.le_trans hL.1.size hTn.size, fun k hk => (hTn.block k (by omega) (by omega)).trans (hL.1.block k (by omega) (by omega) (by omega))⟩
    have HB := Aside0.mk hB4
    have HR1 := Aside0.mk r1
    clear hB4 r1
    have hne : (Ending.returned (.tuple #[])) ≠ gives := fun h => by unfold gives at h; cases h
    cases hD : dcN (ins b) with
    | none =>
      rw [hD] at hL
      have hc : c = 125 := by rcases hor with ⟨_, h⟩ | ⟨h, _⟩; exact h; exact absurd (h.symm.trans hL.2) hne
      subst hc
      have HV := Aside0.mk (none_val HO0.out hD)
      clear hD hL hTn hor hz hz1 hz2 h1 h2 h3 hne
      have d0 : _ = some (Value.int .i64 0) := (blk_cell HR1.out 0).trans rfl
      have d1 : _ = some (Value.int .i64 0) := (blk_cell HR1.out 1).trans rfl
      have d2 : _ = some (Value.int .u64 0) := (blk_cell HR1.out 2).trans rfl
      have d3 : _ = some (Value.slice none 0 0) := (blk_cell HR1.out 3).trans rfl
      have f0 := blk_frozen HR1.out 0
      have f1 := blk_frozen HR1.out 1
      have f2 := blk_frozen HR1.out 2
      have f3 := blk_frozen HR1.out 3
      go_wp2_with fail
      refine bodyPost_ret (v := .tuple #[.agg #[.int .i64 0, .int .i64 0, .int .u64 0, .slice none 0 0], .int .i64 125]) (results_ct (fn := Tryd.f12) rfl _ _ w.heap.size 25 #[.int .i64 0, .int .i64 0, .int .u64 0, .slice none 0 0] (0, 0) _ rfl (by exact (blk_set ((blk_set ((blk_set ((blk_set HR1.out 0 (.int .i64 0)).trans rfl) 1 (.int .i64 0)).trans rfl) 2 (.int .u64 0)).trans rfl) 3 (.slice none 0 0)).trans rfl) Tryd.underlying25 rfl (by kernel_rfl)) rfl ?_
      refine ⟨_, by rw [HV.out.1, HV.out.2]; rfl, ?_, ((((HB.out.setCell (p := ⟨w.heap.size, 0, none⟩) (Nat.le_refl _) _).setCell (p := ⟨w.heap.size, 1, none⟩) (Nat.le_refl _) _).setCell (p := ⟨w.heap.size, 2, none⟩) (Nat.le_refl _) _).setCell (p := ⟨w.heap.size, 3, none⟩) (Nat.le_refl _) _)⟩
      rw [HV.out.1]
      exact Kd.R_nil _ _ _ _ _
    | some x =>
      obtain ⟨r, qq⟩ := x
      rw [hD] at hL
      obtain ⟨hT2, he0, hrd, u, hu, hown⟩ := hL
      subst he0
      simp only at hrd hu hown
      have hc : c = if qq = ((ins b).size : Int) then 0 else 125 := by
        rcases hor with ⟨h, _⟩ | ⟨_, q', hq, hc⟩
        · exact absurd h hne
        · rw [hrd] at hq
          have e := Option.some.inj hq
          injection e with e
          have e2 := congrArg (fun a => a[1]?) e
          simp at e2
          rw [hc, e2]
      by_cases hq : qq = ((ins b).size : Int)
      · rw [if_pos hq] at hc
        subst hc
        have HV := Aside0.mk (some_val HO0.out hD hq)
        have r2 : w4.heap[w.heap.size + 1]? = some (.cells (cells r u) 25 (0, 0)) := hTn.blk hu (by omega)
        have ho : Kd.R k36 36 w4 w.heap.size (fun _ => True) u r.2.2.2 := Kd.R_lower (Kd.R_mono (Kd.R_keep (g := w2.heap.size) (Kd.R_newB hown h3) ⟨hTn.size, fun i hi hg _ => hTn.block i hi hg⟩ (fun _ hk => hk.2)) (fun _ _ => trivial)) (by omega)
        obtain ⟨A, cc, rfl⟩ := Kd.R_slice ho
        have HO := Aside0.mk ho
        have HR2 := Aside0.mk r2
        clear hD hT2 hrd hu hown hTn hor hz hz1 hz2 h1 h2 h3 hne hq ho r2
        have c0 : _ = some (Value.int .i64 r.1) := (blk_cell HR2.out 0).trans rfl
        have c1 : _ = some (Value.int .i64 r.2.1) := (blk_cell HR2.out 1).trans rfl
        have c2 : _ = some (Value.int .u64 r.2.2.1) := (blk_cell HR2.out 2).trans rfl
        have c3 : _ = some (Value.slice A r.2.2.2.length cc) := (blk_cell HR2.out 3).trans rfl
        have d0 : _ = some (Value.int .i64 0) := (blk_cell HR1.out 0).trans rfl
        have d1 : _ = some (Value.int .i64 0) := (blk_cell HR1.out 1).trans rfl
        have d2 : _ = some (Value.int .u64 0) := (blk_cell HR1.out 2).trans rfl
        have d3 : _ = some (Value.slice none 0 0) := (blk_cell HR1.out 3).trans rfl
        have f0 := blk_frozen HR1.out 0
        have f1 := blk_frozen HR1.out 1
        have f2 := blk_frozen HR1.out 2
        have f3 := blk_frozen HR1.out 3
        go_wp2_with fail
        refine bodyPost_ret (v := .tuple #[.agg #[.int .i64 r.1, .int .i64 r.2.1, .int .u64 r.2.2.1, .slice A r.2.2.2.length cc], .int .i64 0]) (results_ct (fn := Tryd.f12) rfl _ _ w.heap.size 25 #[.int .i64 r.1, .int .i64 r.2.1, .int .u64 r.2.2.1, .slice A r.2.2.2.length cc] (0, 0) _ rfl (by exact (blk_set ((blk_set ((blk_set ((blk_set HR1.out 0 (.int .i64 r.1)).trans rfl) 1 (.int .i64 r.2.1)).trans rfl) 2 (.int .u64 r.2.2.1)).trans rfl) 3 (.slice A r.2.2.2.length cc)).trans rfl) Tryd.underlying25 rfl (by kernel_rfl)) rfl ?_
        refine ⟨_, by rw [HV.out.1, HV.out.2]; rfl, ?_, ((((HB.out.setCell (p := ⟨w.heap.size, 0, none⟩) (Nat.le_refl _) _).setCell (p := ⟨w.heap.size, 1, none⟩) (Nat.le_refl _) _).setCell (p := ⟨w.heap.size, 2, none⟩) (Nat.le_refl _) _).setCell (p := ⟨w.heap.size, 3, none⟩) (Nat.le_refl _) _)⟩
        rw [HV.out.1]
        exact Kd.R_mono (Kd.R_far (p := ⟨w.heap.size, 3, none⟩) (Kd.R_far (p := ⟨w.heap.size, 2, none⟩) (Kd.R_far (p := ⟨w.heap.size, 1, none⟩) (Kd.R_far (p := ⟨w.heap.size, 0, none⟩) (Kd.R_types HO.out HR1.out (by decide)) (fun _ hk => hk.2) _) (fun _ hk => hk.2) _) (fun _ hk => hk.2) _) (fun _ hk => hk.2) _) (fun _ _ => trivial)
      · rw [if_neg hq] at hc
        subst hc
        have HV := Aside0.mk (short_val HO0.out hD hq)
        clear hD hT2 hrd hu hown hTn hor hz hz1 hz2 h1 h2 h3 hne hq
        have d0 : _ = some (Value.int .i64 0) := (blk_cell HR1.out 0).trans rfl
        have d1 : _ = some (Value.int .i64 0) := (blk_cell HR1.out 1).trans rfl
        have d2 : _ = some (Value.int .u64 0) := (blk_cell HR1.out 2).trans rfl
        have d3 : _ = some (Value.slice none 0 0) := (blk_cell HR1.out 3).trans rfl
        have f0 := blk_frozen HR1.out 0
        have f1 := blk_frozen HR1.out 1
        have f2 := blk_frozen HR1.out 2
        have f3 := blk_frozen HR1.out 3
        go_wp2_with fail
        refine bodyPost_ret (v := .tuple #[.agg #[.int .i64 0, .int .i64 0, .int .u64 0, .slice none 0 0], .int .i64 125]) (results_ct (fn := Tryd.f12) rfl _ _ w.heap.size 25 #[.int .i64 0, .int .i64 0, .int .u64 0, .slice none 0 0] (0, 0) _ rfl (by exact (blk_set ((blk_set ((blk_set ((blk_set HR1.out 0 (.int .i64 0)).trans rfl) 1 (.int .i64 0)).trans rfl) 2 (.int .u64 0)).trans rfl) 3 (.slice none 0 0)).trans rfl) Tryd.underlying25 rfl (by kernel_rfl)) rfl ?_
        refine ⟨_, by rw [HV.out.1, HV.out.2]; rfl, ?_, ((((HB.out.setCell (p := ⟨w.heap.size, 0, none⟩) (Nat.le_refl _) _).setCell (p := ⟨w.heap.size, 1, none⟩) (Nat.le_refl _) _).setCell (p := ⟨w.heap.size, 2, none⟩) (Nat.le_refl _) _).setCell (p := ⟨w.heap.size, 3, none⟩) (Nat.le_refl _) _)⟩
        rw [HV.out.1]
        exact Kd.R_nil _ _ _ _ _
  · have HI := Aside0.mk (man_out b ltN #[.pointer (some ⟨w.heap.size + 1, 0, none⟩)] w2 hb HT.out ho)
    have HV := Aside0.mk (out_val ho)
    have H0 := Aside0.mk b0
    have HO0 := Aside0.mk ho
    clear b0 b1 z2 e2 hb2 hT ho
    go_enter Tryd.func12, Tryd.ntmps12
    go_wp2_with fail
    rw [← E2.out]
    refine HI.out.mono ?_
    rintro e w4 ⟨rfl, hb4⟩
    have hz := HZ.out
    have HR1 := Aside0.mk ((hb4.block _ (by omega)).trans H0.out)
    have HB := Aside0.mk (HB.out.trans (hb4.mono (by omega)))
    have hk : (opn b ltN == 0) = false := beq_eq_false_iff_ne.2 HO0.out
    generalize opn b ltN = cd at hk HV ⊢
    clear hb4 hz HI HO0
    have d0 : _ = some (Value.int .i64 0) := (blk_cell HR1.out 0).trans rfl
    have d1 : _ = some (Value.int .i64 0) := (blk_cell HR1.out 1).trans rfl
    have d2 : _ = some (Value.int .u64 0) := (blk_cell HR1.out 2).trans rfl
    have d3 : _ = some (Value.slice none 0 0) := (blk_cell HR1.out 3).trans rfl
    have f0 := blk_frozen HR1.out 0
    have f1 := blk_frozen HR1.out 1
    have f2 := blk_frozen HR1.out 2
    have f3 := blk_frozen HR1.out 3
    go_wp2_with fail
    refine bodyPost_ret (v := .tuple #[.agg #[.int .i64 0, .int .i64 0, .int .u64 0, .slice none 0 0], .int .i64 cd]) (results_ct (fn := Tryd.f12) rfl _ _ w.heap.size 25 #[.int .i64 0, .int .i64 0, .int .u64 0, .slice none 0 0] (0, 0) _ rfl (by exact (blk_set ((blk_set ((blk_set ((blk_set HR1.out 0 (.int .i64 0)).trans rfl) 1 (.int .i64 0)).trans rfl) 2 (.int .u64 0)).trans rfl) 3 (.slice none 0 0)).trans rfl) Tryd.underlying25 rfl (by kernel_rfl)) rfl ?_
    refine ⟨_, by rw [HV.out.1, HV.out.2]; rfl, ?_, ((((HB.out.setCell (p := ⟨w.heap.size, 0, none⟩) (Nat.le_refl _) _).setCell (p := ⟨w.heap.size, 1, none⟩) (Nat.le_refl _) _).setCell (p := ⟨w.heap.size, 2, none⟩) (Nat.le_refl _) _).setCell (p := ⟨w.heap.size, 3, none⟩) (Nat.le_refl _) _)⟩
    rw [HV.out.1]
    exact Kd.R_nil _ _ _ _ _
end Go.Proofs.YtejjidggnnhgjaaDoor.HImDm
/- Reading a file of layer 12 loosely, as the document does, step by step: what stands while the records are gathered; and what a loose reading that is laid down again comes to. -/
set_option linter.unusedVariables false
set_option linter.unusedSimpArgs false
namespace Go.Proofs.YtejjidggnnhgjaaDoor.HImS
open Go.RowKit Go.Proofs.YtejjidggnnhgjaaDoor.PImg Go.Proofs.YtejjidggnnhgjaaDoor.HBase Go.Proofs.YtejjidggnnhgjaaDoor.HBlob Go.Proofs.YtejjidggnnhgjaaDoor.HSum Go.Proofs.YtejjidggnnhgjaaDoor.HCk Go.Proofs.YtejjidggnnhgjaaDoor.HImgW Go.Proofs.YtejjidggnnhgjaaDoor.HImgR Go.Proofs.YtejjidggnnhgjaaDoor.HImgO Go.Proofs.YtejjidggnnhgjaaDoor.HImP Go.Proofs.YtejjidggnnhgjaaDoor.HImD Go.Proofs.YtejjidggnnhgjaaDoor.HImE Go.Proofs.YtejjidggnnhgjaaDoor.HImF Go.Proofs.YtejjidggnnhgjaaDoorW.PrintWords Go.Proofs.YtejjidggnnhgjaaDoorW.PrintLast Go.Proofs.YtejjidggnnhgjaaDoorW.PrintMore Go.Proofs.YtejjidggnnhgjaaDoor.HCore
/-- What stands: the result's block (the first), the struct in pb, the cursor in gb; the records' row is not block nb. -/
structure Lo {X : Type} (d : Kd X) (E T : Nat) (Z : Array Value) (w : World) (pb gb nb : Nat) (s : ByteArray) (c : Int × Bool) (cs : Array Value) (u : Value) (l : List X) (wr : World) : Prop where
  below : Below w.heap.size w wr
  res : wr.heap[w.heap.size]? = some (.cells Z T (0, 0))
  pair : wr.heap[pb]? = some (.cells cs T (0, 0))
  cur : Cu w wr gb s c
  own : Kd.R d E wr w.heap.size (fun k => k ≠ nb) u l
  ne : w.heap.size < pb ∧ pb ≠ gb ∧ w.heap.size < gb
section
variable {X : Type} {d : Kd X} {E T : Nat} {Z : Array Value} {w wr wr' : World} {pb gb nb : Nat} {s : ByteArray} {c c' : Int × Bool} {cs : Array Value} {u : Value} {l : List X}
theorem Lo.step (h : Lo d E T Z w pb gb nb s c cs u l wr) (hb : Below wr.heap.size wr wr') : Lo d E T Z w pb gb nb s c cs u l wr' :=
  ⟨below_then h.below h.below.size hb, (hb.block _ (blk_lt h.res)).trans h.res, (hb.block _ (blk_lt h.pair)).trans h.pair, h.cur.below hb, Kd.R_below h.own hb, h.ne⟩
theorem Lo.drew (h : Lo d E T Z w pb gb nb s c cs u l wr) : Lo d E T Z w pb gb nb s c cs u l wr.drew := h.step (below_drew (Below.refl _ _))
theorem Lo.drewN (h : Lo d E T Z w pb gb nb s c cs u l wr) (n : Nat) : Lo d E T Z w pb gb nb s c cs u l (wr.drewN n) := h.step (pw_below_drewN (Below.refl _ _) n)
theorem Lo.reads (ht : ∀ q, q ∈ E :: d.E → q ≠ 93) (h : Lo d E T Z w pb gb nb s c cs u l wr) (hI : Cu w wr' gb s c') (hb : Below w.heap.size w wr') (hk : KeepBut wr wr' gb none) : Lo d E T Z w pb gb nb s c' cs u l wr' :=
  ⟨hb, (hk.2 _ (blk_lt h.res) (by have := h.ne; omega) (by simp)).trans h.res, (hk.2 _ (blk_lt h.pair) h.ne.2.1 (by simp)).trans h.pair, hI, Kd.R_mono (Kd.R_keep (Kd.R_types h.own h.cur.1 ht) hk (fun _ hk => hk.2)) (fun _ hk => hk.1), h.ne⟩
theorem Lo.new (h : Lo d E T Z w pb gb nb s c cs u l wr) (o : Obj) : Lo d E T Z w pb gb wr.heap.size s c cs u l (wr.alloc o) := by
  have h2 := h.step (below_alloc (Below.refl _ _) o)
  exact ⟨h2.below, h2.res, h2.pair, h2.cur, Kd.R_alloc (Kd.R_mono (Kd.R_elderB h.own wr.heap.size (Nat.le_refl _)) (fun _ hk => hk.2)) o, h2.ne⟩
theorem Lo.free (ht : ∀ q, q ∈ E :: d.E → q ≠ 93) (h : Lo d E T Z w pb gb nb s c cs u l wr) : Lo d E T Z w pb gb gb s c cs u l wr :=
  ⟨h.below, h.res, h.pair, h.cur, Kd.R_mono (Kd.R_types h.own h.cur.1 ht) (fun _ hk => hk.2), h.ne⟩
theorem cur_far {p : Addr} (h : Cu w wr gb s c) (hn : gb ≠ p.block) (v : Value) : Cu w (wr.setCell p v) gb s c := ⟨blk_far h.1 hn v, h.2⟩
theorem Lo.put (ht : ∀ q, q ∈ E :: d.E → q ≠ T) (h : Lo d E T Z w pb gb nb s c cs u l wr) (j : Nat) (v : Value) : Lo d E T Z w pb gb nb s c (cs.setIfInBounds j v) u l (wr.setCell ⟨pb, j, none⟩ v) :=
  ⟨h.below.setCell (p := ⟨pb, j, none⟩) (Nat.le_of_lt h.ne.1) v, blk_far h.res (by have := h.ne; show w.heap.size ≠ pb; omega) v, blk_set h.pair j v, cur_far h.cur (Ne.symm h.ne.2.1) v, Kd.R_set h.own h.pair ht j v, h.ne⟩
theorem Lo.far (h : Lo d E T Z w pb gb nb s c cs u l wr) (hn : w.heap.size < nb ∧ nb ≠ pb ∧ nb ≠ gb) (j : Nat) (v : Value) : Lo d E T Z w pb gb nb s c cs u l (wr.setCell ⟨nb, j, none⟩ v) :=
  ⟨h.below.setCell (p := ⟨nb, j, none⟩) (Nat.le_of_lt hn.1) v, blk_far h.res (by show w.heap.size ≠ nb; omega) v, blk_far h.pair (Ne.symm hn.2.1) v, cur_far h.cur (Ne.symm hn.2.2) v, Kd.R_far h.own (fun _ hk => hk) v, h.ne⟩
theorem Lo.more (ht : ∀ q, q ∈ E :: d.E → q ≠ T) (ht2 : ∀ q, q ∈ E :: d.E → q ≠ 93) (h : Lo d E T Z w pb gb nb s c cs u l wr) {u' : Value} {l' : List X} (hb : Below w.heap.size w wr') (hg : wr.grownBy wr' u.ownBlock) (ho : Kd.R d E wr' w.heap.size (fun k => k ≠ nb) u' l') (j : Nat) :
    Lo d E T Z w pb gb nb s c (cs.setIfInBounds j u') u' l' (wr'.setCell ⟨pb, j, none⟩ u') := by
  have hE := ht E (List.mem_cons_self ..)
  have hE2 := ht2 E (List.mem_cons_self ..)
  have h0 : Lo d E T Z w pb gb nb s c cs u' l' wr' :=
    ⟨hb, (hg.block _ (blk_lt h.res) (Kd.R_ne h.own h.res hE)).trans h.res, (hg.block _ (blk_lt h.pair) (Kd.R_ne h.own h.pair hE)).trans h.pair, h.cur.grown hg (Kd.R_ne h.own h.cur.1 hE2), ho, h.ne⟩
  exact h0.put ht j u'
end
/-! ### what a loose reading comes to -/
theorem file_iff {b lt : ByteArray} {l : List UInt8} (hlt : lt.size = 8) (ho : opn b lt = 0) : fileOf lt l = b ↔ l = (ins b).data.toList := by
  unfold opn at ho
  have h1 : ¬ b.size < 12 := fun h => by rw [if_pos h] at ho; exact absurd ho (by decide)
  rw [if_neg h1] at ho
  have h2 : ¬ Lib.hasPrefix b.data.toList lt.data.toList = false := fun h => by rw [if_pos h] at ho; exact absurd ho (by decide)
  rw [if_neg h2] at ho
  have h3 : (fxb 4 (ck (b.extract 0 (b.size - 4)))).toList = (b.extract (b.size - 4) b.size).toList := by
    apply Classical.byContradiction
    intro h
    rw [if_neg h] at ho
    exact absurd ho (by decide)
  have hp := pre_iff b lt (by omega) hlt
  have h4 : (b.extract 0 8).data.toList = lt.data.toList := by
    have : Lib.hasPrefix b.data.toList lt.data.toList = true := by simpa using h2
    rw [this] at hp
    have := beq_iff_eq.1 hp.symm
    rwa [toList_data, toList_data] at this
  rw [toList_data, toList_data] at h3
  have hi := ins_eq b (by omega)
  have hbody : (b.extract 0 (b.size - 4)).data.toList = lt.data.toList ++ (ins b).data.toList := by
    rw [← h4, hi, extract_list, extract_list, extract_list, List.drop_zero, Nat.sub_zero, Nat.sub_zero]
    rw [← List.take_add, show 8 + (b.size - 4 - 8) = b.size - 4 by omega]
  have hbl : b.data.toList = (b.extract 0 (b.size - 4)).data.toList ++ (b.extract (b.size - 4) b.size).data.toList := by
    rw [extract_list, extract_list, List.drop_zero, Nat.sub_zero]
    rw [List.take_of_length_le (l := b.data.toList.drop (b.size - 4)) (by rw [List.length_drop, size_list]; omega), List.take_append_drop]
  have e2 : (⟨(lt.data.toList ++ (ins b).data.toList).toArray⟩ : ByteArray) = b.extract 0 (b.size - 4) := by
    apply ba_ext
    rw [hbody]
  constructor
  · intro h
    have h5 : (fileOf lt l).data.toList = b.data.toList := by rw [h]
    unfold fileOf at h5
    rw [append_list, show (⟨(lt.data.toList ++ l).toArray⟩ : ByteArray).data.toList = lt.data.toList ++ l from rfl] at h5
    have hbz := size_list b
    have hl4 : (fxb 4 (ck ⟨(lt.data.toList ++ l).toArray⟩)).data.toList.length = 4 := by rw [size_list, fxb_len]
    have hlen := congrArg List.length h5
    rw [List.length_append, hl4] at hlen
    have h6 : lt.data.toList ++ l = (b.extract 0 (b.size - 4)).data.toList := by
      have := congrArg (List.take (b.size - 4)) h5
      rw [List.take_append_of_le_length (by simp only [List.length_append] at hlen ⊢; omega), List.take_of_length_le (by simp only [List.length_append] at hlen ⊢; omega)] at this
      rw [extract_list, List.drop_zero, Nat.sub_zero]
      exact this
    rw [hbody] at h6
    exact List.append_cancel_left h6
  · intro h
    subst h
    apply ba_ext
    unfold fileOf
    rw [e2, append_list, h3, ← hbl]
end Go.Proofs.YtejjidggnnhgjaaDoor.HImS
/- Lists of layer 12's records, written where they lie and made longer: what stands meanwhile. -/
set_option linter.unusedVariables false
set_option linter.unusedSimpArgs false
namespace Go.Proofs.YtejjidggnnhgjaaDoor.HImL
open Go.RowKit Go.Proofs.YtejjidggnnhgjaaDoor.PImg Go.Proofs.YtejjidggnnhgjaaDoor.HImP Go.Proofs.YtejjidggnnhgjaaDoor.HImD Go.Proofs.YtejjidggnnhgjaaDoorW.PrintWords Go.Proofs.YtejjidggnnhgjaaDoorW.PrintLast Go.Proofs.YtejjidggnnhgjaaDoorW.PrintMore Go.Proofs.YtejjidggnnhgjaaDoor.HCore
theorem store_run {P : Program} {o : Oper} {a : Act} {w w1 : World} {t : TypeId} {x y : Operand} {p v : Value} (ho : o.op = .store t x y) (hx : a.eval x = p) (hy : a.eval y = v) (h : (Instr.storeAt t p v).run P w = .ok () w1) : (execOp a.eval o).run P w = .ok .skip w1 := by
  unfold execOp
  rw [ho]
  simp [hx, hy, h]
/-- A row of one's own, from a world on: nothing else that was there has been touched. -/
structure Rw {X : Type} (d : Kd X) (E : Nat) (w0 : World) (base : Nat) (v0 : Value) (W : World) (v : Value) (l : List X) : Prop where
  bel : Below base w0 W
  own : Kd.R d E W base (fun _ => True) v l
  gr : w0.grownBy W v0.ownBlock
  blk : v.ownBlock = v0.ownBlock ∨ ∃ b, v.ownBlock = some b ∧ w0.heap.size ≤ b
  hb : base ≤ w0.heap.size
section
variable {X : Type} {d : Kd X} {E : Nat} {w0 W W' : World} {base : Nat} {v0 v : Value} {l : List X}
theorem Rw.start (h : Kd.R d E w0 base (fun _ => True) v0 l) (hb : base ≤ w0.heap.size) : Rw d E w0 base v0 w0 v0 l := ⟨Below.refl _ _, h, ⟨rfl, rfl, rfl, Nat.le_refl _, fun _ _ _ => rfl⟩, Or.inl rfl, hb⟩
theorem Rw.below (h : Rw d E w0 base v0 W v l) (hb : Below W.heap.size W W') : Rw d E w0 base v0 W' v l :=
  ⟨below_then h.bel (Nat.le_trans h.hb h.gr.size) hb, Kd.R_below h.own hb, ⟨hb.os.trans h.gr.os, hb.tape.trans h.gr.tape, hb.output.trans h.gr.output, Nat.le_trans h.gr.size hb.size, fun k hk hn => (hb.block k (Nat.lt_of_lt_of_le hk h.gr.size)).trans (h.gr.block k hk hn)⟩, h.blk, h.hb⟩
theorem Rw.grow (h : Rw d E w0 base v0 W v l) {v' : Value} {l' : List X} (hg : W.grownBy W' v.ownBlock) (ho : Kd.R d E W' base (fun _ => True) v' l') (hat : v'.ownBlock = v.ownBlock ∨ ∃ b, v'.ownBlock = some b ∧ W.heap.size ≤ b) : Rw d E w0 base v0 W' v' l' := by
  have hs := h.gr.size
  refine ⟨h.bel.grown hg (Nat.le_trans h.hb hs) (Kd.R_base h.own), ho, ⟨hg.os.trans h.gr.os, hg.tape.trans h.gr.tape, hg.output.trans h.gr.output, Nat.le_trans hs hg.size, fun k hk hn => ?_⟩, ?_, h.hb⟩
  · refine (hg.block k (Nat.lt_of_lt_of_le hk hs) (fun e => ?_)).trans (h.gr.block k hk hn)
    rcases h.blk with hb | ⟨b, hb, hle⟩
    · exact hn (e.trans hb)
    · rw [hb] at e
      injection e with e
      omega
  · rcases hat with hat | ⟨b, hb, hle⟩
    · rcases h.blk with hb | ⟨b, hb, hle⟩
      · exact Or.inl (hat.trans hb)
      · exact Or.inr ⟨b, hat.trans hb, hle⟩
    · exact Or.inr ⟨b, hb, by omega⟩
end
/-- Element i of a row is written whole. -/
theorem wrN {W : World} {base g n c : Nat} {xs : List S36} (h : Kd.R k36 36 W base (fun _ => True) (.slice (some ⟨g, 0, none⟩) n c) xs) (i : Nat) (hi : i < n) (x : S36) :
    Kd.R k36 36 (W.setCells g (i * 8) [.int .i64 x.f0, .int .u64 x.f1, .int .u64 x.f2, .int .i64 x.f3, .int .i64 x.f4, .int .i64 x.f5, .int .u32 x.f6, .int .u32 x.f7]) base (fun _ => True) (.slice (some ⟨g, 0, none⟩) n c) (xs.set i x)
    ∧ W.grownBy (W.setCells g (i * 8) [.int .i64 x.f0, .int .u64 x.f1, .int .u64 x.f2, .int .i64 x.f3, .int .i64 x.f4, .int .i64 x.f5, .int .u32 x.f6, .int .u32 x.f7]) (some g)
    ∧ ∀ (v : Value), v.cells.toList = [.int .i64 x.f0, .int .u64 x.f1, .int .u64 x.f2, .int .i64 x.f3, .int .i64 x.f4, .int .i64 x.f5, .int .u32 x.f6, .int .u32 x.f7] → (Instr.storeAt 36 (.pointer (some ⟨g, i * 8, none⟩)) v).run Tryd.prog W = .ok () (W.setCells g (i * 8) [.int .i64 x.f0, .int .u64 x.f1, .int .u64 x.f2, .int .i64 x.f3, .int .i64 x.f4, .int .i64 x.f5, .int .u32 x.f6, .int .u32 x.f7]) := by
  obtain ⟨hl, hnc, hC⟩ := Kd.R_reads' h
  obtain ⟨ad, cs, e1, e2, e3, e4⟩ := ReadsRow.get_ hC z36 (i : Int) (by omega) (by omega)
  obtain rfl := Option.some.inj e1
  have hs := Kd.R_seg (okp := fun _ => False) (x' := x) (seg := [.int .i64 x.f0, .int .u64 x.f1, .int .u64 x.f2, .int .i64 x.f3, .int .i64 x.f4, .int .i64 x.f5, .int .u32 x.f6, .int .u32 x.f7]) (j := 0) h (i : Int) (by omega) (by omega) e2 (fun j u hu => by have := e4 j u hu; rwa [add_plain] at this) (show 0 + 8 ≤ 8 by omega) (by
    have e : cs.drop (0 + 8) = [] := List.drop_of_length_le (by rw [e2]; decide)
    show k36.M W base (fun _ => False) x (cs.take 0 ++ [.int .i64 x.f0, .int .u64 x.f1, .int .u64 x.f2, .int .i64 x.f3, .int .i64 x.f4, .int .i64 x.f5, .int .u32 x.f6, .int .u32 x.f7] ++ cs.drop (0 + 8))
    rw [e]
    exact k36_mkM _ _ _ x) (fun _ hk => hk.elim)
  obtain ⟨hr, hg⟩ := hs
  have hz : ((i : Int).toNat * k36.sz + 0) = i * 8 := rfl
  rw [hz] at hr hg
  have hn : xs.set (i : Int).toNat x = xs.set i x := rfl
  rw [hn] at hr
  obtain ⟨_, inner, ho, hri⟩ := h
  obtain ⟨hin, ho2⟩ := ho
  rcases ho2 with ⟨hv, _⟩ | ⟨g', cap', cur, hv, hb, hh, hnc', hcm, hcs, ht⟩
  · cases hv
  injection hv with ha _ hc
  injection ha with ha
  injection ha with hgg
  subst hgg; subst hc
  have hfit : i * 8 + 8 ≤ cur.size := by
    rw [hcs]
    show i * 8 + 8 ≤ c * 8
    omega
  refine ⟨hr, hg, fun v hv => ?_⟩
  exact run_store_run 36 v _ hh hv (by kernel_rfl) hfit (by intro q hq; simp at hq; rcases hq with rfl | rfl | rfl | rfl | rfl | rfl | rfl | rfl <;> rfl)
theorem Rw.putN {w0 W : World} {base g n c : Nat} {v0 : Value} {xs : List S36} (h : Rw k36 36 w0 base v0 W (.slice (some ⟨g, 0, none⟩) n c) xs) (i : Nat) (hi : i < n) (x : S36) :
    Rw k36 36 w0 base v0 (W.setCells g (i * 8) [.int .i64 x.f0, .int .u64 x.f1, .int .u64 x.f2, .int .i64 x.f3, .int .i64 x.f4, .int .i64 x.f5, .int .u32 x.f6, .int .u32 x.f7]) (.slice (some ⟨g, 0, none⟩) n c) (xs.set i x)
    ∧ ∀ (v : Value), v.cells.toList = [.int .i64 x.f0, .int .u64 x.f1, .int .u64 x.f2, .int .i64 x.f3, .int .i64 x.f4, .int .i64 x.f5, .int .u32 x.f6, .int .u32 x.f7] → (Instr.storeAt 36 (.pointer (some ⟨g, i * 8, none⟩)) v).run Tryd.prog W = .ok () (W.setCells g (i * 8) [.int .i64 x.f0, .int .u64 x.f1, .int .u64 x.f2, .int .i64 x.f3, .int .i64 x.f4, .int .i64 x.f5, .int .u32 x.f6, .int .u32 x.f7]) := by
  obtain ⟨h1, h2, h3⟩ := wrN h.own i hi x
  exact ⟨h.grow h2 h1 (Or.inl rfl), h3⟩
end Go.Proofs.YtejjidggnnhgjaaDoor.HImL
/- named, of layer 12's statements: a manifest's list written full and made longer touches that list alone. -/
set_option linter.unusedVariables false
set_option linter.unusedSimpArgs false
namespace Go.Proofs.YtejjidggnnhgjaaDoor.HImNm
open Go.RowKit Go.Proofs.YtejjidggnnhgjaaDoor.PImg Go.Proofs.YtejjidggnnhgjaaDoor.HImP Go.Proofs.YtejjidggnnhgjaaDoor.HImD Go.Proofs.YtejjidggnnhgjaaDoor.HImL Go.Proofs.YtejjidggnnhgjaaDoorW.PrintWords Go.Proofs.YtejjidggnnhgjaaDoorW.PrintLast Go.Proofs.YtejjidggnnhgjaaDoorW.PrintMore Go.Proofs.YtejjidggnnhgjaaDoor.HCore
theorem own_form {X : Type} {k : Kd X} {tX : TypeId} {W : World} {base n c : Nat} {A : Option Addr} {xs : List X} {ok : Nat → Prop} (h : Kd.R k tX W base ok (.slice A n c) xs) : (A = none ∧ n = 0 ∧ c = 0) ∨ ∃ g, A = some ⟨g, 0, none⟩ := by
  obtain ⟨_, inner, ho, _⟩ := h
  rcases ho.2 with ⟨hv, _⟩ | ⟨g, cap, cur, hv, _⟩
  · injection hv with h1 h2 h3
    exact Or.inl ⟨h1, h2, h3⟩
  · injection hv with h1 _ _
    exact Or.inr ⟨g, h1⟩
theorem sl_form {X : Type} {k : Kd X} {tX : TypeId} {W : World} {base : Nat} {v : Value} {xs : List X} {ok : Nat → Prop} (h : Kd.R k tX W base ok v xs) : ∃ A c n, n = xs.length ∧ v = .slice A n c := by
  obtain ⟨A, c, hv⟩ := Kd.R_slice h
  exact ⟨A, c, _, rfl, hv⟩
/-- The parameter's block and the list. -/
structure Nm (w : World) (base : Nat) (v0 : Value) (cs : Array Value) (v : Value) (l : List SN) (W : World) : Prop where
  rw_ : Rw k36 36 w base v0 W v l
  box : W.heap[w.heap.size]? = some (.cells cs 25 (0, 0))
set_option maxRecDepth 100000 in
set_option maxHeartbeats 8000000 in
theorem named_any (gen next upto : Int) (A : Option Addr) (n c : Nat) (ps : List SN) (w : World) (base : Nat) (hR : Kd.R k36 36 w base (fun _ => True) (.slice A n c) ps) (hb : base ≤ w.heap.size) (hl : ps.length ≤ 1000000000) :
    Calls Tryd.prog 14 #[.agg #[.int .i64 gen, .int .i64 next, .int .u64 upto, .slice A n c]] w fun e w' => e = .returned (.tuple #[]) ∧ w.grownBy w' (Value.slice A n c).ownBlock ∧ Below base w w' := by
  have hn : n = ps.length := (Kd.R_reads' hR).1
  subst hn
  have HN : Aside0 (Nm w base (.slice A ps.length c) #[.int .i64 gen, .int .i64 next, .int .u64 upto, .slice A ps.length c] (.slice A ps.length c) ps (w.alloc (.cells #[.int .i64 gen, .int .i64 next, .int .u64 upto, .slice A ps.length c] 25))) :=
    ⟨⟨(Rw.start hR hb).below (below_alloc (Below.refl _ _) _), heap_alloc_new _ _⟩⟩
  clear hR
  go_enter Tryd.func14, Tryd.ntmps14
  go_wp2
  go_loopw [2] (fun v2 wr => ∃ (k : Nat) (l : List SN), k ≤ ps.length ∧ v2 = .int .i64 (k : Int) ∧ Aside0 (l.length = ps.length) ∧ Aside0 (Nm w base (.slice A ps.length c) #[.int .i64 gen, .int .i64 next, .int .u64 upto, .slice A ps.length c] (.slice A ps.length c) l wr)) (fun v2 _ => ps.length - (intOf v2).toNat)
  case atStart => exact ⟨0, ps, by omega, rfl, ⟨rfl⟩, HN⟩
  case round =>
    clear HN
    obtain ⟨k, l, hk, rfl, HLn, HN⟩ := hrel
    have c3 : _ = some (Value.slice A ps.length c) := (blk_cell HN.out.box 3).trans rfl
    by_cases hlt : k < ps.length
    · obtain ⟨g, rfl⟩ : ∃ g, A = some ⟨g, 0, none⟩ := by
        rcases own_form HN.out.rw_.own with ⟨_, h2, _⟩ | h
        · omega
        · exact h
      obtain ⟨r1, r2⟩ := HN.out.rw_.putN k hlt (⟨-(k : Int), 0, 0, 0, 0, 0, 0, 0⟩ : SN)
      have hbx : (wr.setCells g (k * 8) [.int .i64 (-(k : Int)), .int .u64 0, .int .u64 0, .int .i64 0, .int .i64 0, .int .i64 0, .int .u32 0, .int .u32 0]).heap[w.heap.size]? = some (.cells #[.int .i64 gen, .int .i64 next, .int .u64 upto, .slice (some ⟨g, 0, none⟩) ps.length c] 25 (0, 0)) :=
        (setCells_far _ _ _ (fun e => by have := Kd.R_ne HN.out.rw_.own HN.out.box (by decide); exact this (by rw [e]; rfl))).trans HN.out.box
      have HQ1 := Aside0.mk r1
      have HQ3 := Aside0.mk r2
      have HBx := Aside0.mk hbx
      clear r1 r2 hbx
      go_wp2_with (first | ((with_reducible refine gate_store (t := 36) (p := 17) rfl ?_); go_loud (refine store_event (t := 36) (p := 17) (v := ?vo) (w1 := wr.setCells g (k * 8) [.int .i64 (-(k : Int)), .int .u64 0, .int .u64 0, .int .i64 0, .int .i64 0, .int .i64 0, .int .u32 0, .int .u32 0]) ?hg ?ho ?hn ?hr ?_; (case ho => rfl); (case hg => rfl); (case hn => rfl); (case hr => exact store_run rfl (by first | rfl | (go_simp; done) | (go_simp; rfl)) (by rfl) (HQ3.out _ (by rfl))); intro w6 hw; rw [← hw] at HQ1 HBx; clear hw)))
      go_roundw
      case rel => exact ⟨k + 1, _, by omega, by go_num, ⟨by rw [List.length_set]; exact HLn.out⟩, ⟨HQ1.out, HBx.out⟩⟩
      case measure => simp [intOf]; omega
    · go_wp2
      have HL2 : Aside0 (l.length ≤ 1000000000) := ⟨by rw [HLn.out]; exact hl⟩
      have c3b : _ = some (Value.slice A ps.length c) := (blk_cell HN.out.box 3).trans rfl
      clear c3b c3 HLn
      go_loopw [3] (fun v3 wr => ∃ (i : Nat) (v : Value) (l : List SN), i ≤ 20 ∧ v3 = .int .i64 (i : Int) ∧ Aside0 (l.length ≤ 1000000000 + i) ∧ Aside0 (Nm w base (.slice A ps.length c) #[.int .i64 gen, .int .i64 next, .int .u64 upto, v] v l wr)) (fun v3 _ => 20 - (intOf v3).toNat)
      case atStart => exact ⟨0, _, l, by omega, rfl, ⟨by have := HL2.out; omega⟩, HN⟩
      case round =>
        clear HN HL2
        obtain ⟨i, v, l, hi, rfl, HL2, HN⟩ := hrel
        by_cases hlt2 : i < 20
        · obtain ⟨A2, c2, rfl⟩ := Kd.R_slice HN.out.rw_.own
          have c3 : _ = some (Value.slice A2 l.length c2) := (blk_cell HN.out.box 3).trans rfl
          have HNo := HN
          go_wp2_with (first | ((with_reducible refine gate_builtin (b := .append) (xs := #[.tmp 23, .tmp 25]) rfl ?_); go_loud (at_builtin; refine Kd.R_append k36 (w0 := w) base rfl (.tmp 23) (.tmp 25) 23 36 (.agg #[.int .i64 0, .int .u64 0, .int .u64 0, .int .i64 0, .int .i64 0, .int .i64 0, .int .u32 0, .int .u32 0]) 56 rfl Tryd.underlying23 info36 rfl (by decide) (by omega) (.slice A2 l.length c2) l (⟨-99, 0, 0, 0, 0, 0, 0, 0⟩ : SN) [.int .i64 (-99), .int .u64 0, .int .u64 0, .int .i64 0, .int .i64 0, .int .i64 0, .int .u32 0, .int .u32 0] (fun _ => True) (fun _ => False) rfl (by first | (go_simp; done) | (go_simp; rfl)) ?aP (fun _ hk => hk.elim) (fun _ _ => trivial) ?aO ?aB ?aS ?aL ?_; (case aP => exact k36_mkM _ _ _ (⟨-99, 0, 0, 0, 0, 0, 0, 0⟩ : SN)); (case aO => exact HN.out.rw_.own); (case aB => exact HN.out.rw_.bel); (case aS => exact Nat.le_trans HN.out.rw_.hb HN.out.rw_.gr.size); (case aL => exact (by have := HL2.out; omega)); clear c3; intro u' w99 ho hbb hg hat; obtain ⟨A3, cc3, m3, hm3, rfl⟩ := sl_form ho; have HM3 := Aside0.mk hm3; clear hm3; have HR2 := Aside0.mk (HN.out.rw_.grow hg ho hat); have HBx := Aside0.mk ((hg.block _ (blk_lt HN.out.box) (Kd.R_ne HN.out.rw_.own HN.out.box (by decide))).trans HN.out.box); have c3 : _ = some (Value.slice A2 l.length c2) := (blk_cell HBx.out 3).trans rfl; have f3 := blk_frozen HBx.out 3; clear ho hbb hg hat)))
          have HN2 : Aside0 (Nm w base (.slice A ps.length c) #[.int .i64 gen, .int .i64 next, .int .u64 upto, (.slice A3 m3 cc3)] (.slice A3 m3 cc3) (l ++ [(⟨-99, 0, 0, 0, 0, 0, 0, 0⟩ : SN)]) (w99.setCell ⟨w.heap.size, 3, none⟩ (.slice A3 m3 cc3))) := ⟨⟨⟨HR2.out.bel.setCell (p := ⟨w.heap.size, 3, none⟩) HR2.out.hb _, Kd.R_set HR2.out.own HBx.out (by decide) 3 (.slice A3 m3 cc3), ⟨HR2.out.gr.os, HR2.out.gr.tape, HR2.out.gr.output, by simpa [World.setCell] using HR2.out.gr.size, fun k hk hn => (Below.heap_setCell _ _ _ _ (by show k ≠ w.heap.size; omega)).trans (HR2.out.gr.block k hk hn)⟩, HR2.out.blk, HR2.out.hb⟩, (blk_set HBx.out 3 (.slice A3 m3 cc3)).trans rfl⟩⟩
          go_roundw
          case rel => exact ⟨i + 1, (.slice A3 m3 cc3), _, by omega, by go_num, ⟨by rw [List.length_append, List.length_singleton]; have := HL2.out; omega⟩, HN2⟩
          case measure => simp [intOf]; omega
        · go_wp2
          go_end0
          exact ⟨rfl, HN.out.rw_.gr, HN.out.rw_.bel⟩
end Go.Proofs.YtejjidggnnhgjaaDoor.HImNm
/- backwards, of layer 12's statements: the lists of a pair turned round where they lie. -/
set_option linter.unusedVariables false
set_option linter.unusedSimpArgs false
namespace Go.Proofs.YtejjidggnnhgjaaDoor.HImBk
open Go.RowKit Go.Proofs.YtejjidggnnhgjaaDoor.PImg Go.Proofs.YtejjidggnnhgjaaDoor.HImP Go.Proofs.YtejjidggnnhgjaaDoor.HImD Go.Proofs.YtejjidggnnhgjaaDoor.HImL Go.Proofs.YtejjidggnnhgjaaDoor.HImNm Go.Proofs.YtejjidggnnhgjaaDoorW.PrintWords Go.Proofs.YtejjidggnnhgjaaDoorW.PrintLast Go.Proofs.YtejjidggnnhgjaaDoorW.PrintMore Go.Proofs.YtejjidggnnhgjaaDoor.HCore
theorem frz {X : Type} {k : Kd X} {tX : TypeId} {W : World} {base g n c : Nat} {xs : List X} {ok : Nat → Prop} (h : Kd.R k tX W base ok (.slice (some ⟨g, 0, none⟩) n c) xs) (j : Nat) : W.frozen? ⟨g, j, none⟩ = false := by
  obtain ⟨_, inner, ho, _⟩ := h
  obtain ⟨cells, hh⟩ := own_typed ho g rfl
  exact blk_frozen hh j
/-- Nothing that was there has been touched but two blocks. -/
structure Two (w W : World) (r1 r2 : Option Nat) : Prop where
  os : W.os = w.os
  tape : W.tape = w.tape
  output : W.output = w.output
  size : w.heap.size ≤ W.heap.size
  block : ∀ k, k < w.heap.size → some k ≠ r1 → some k ≠ r2 → W.heap[k]? = w.heap[k]?
theorem Two.refl (w : World) (r1 r2 : Option Nat) : Two w w r1 r2 := ⟨rfl, rfl, rfl, Nat.le_refl _, fun _ _ _ _ => rfl⟩
theorem Two.below {w W W' : World} {r1 r2 : Option Nat} (h : Two w W r1 r2) (hb : Below W.heap.size W W') : Two w W' r1 r2 :=
  ⟨hb.os.trans h.os, hb.tape.trans h.tape, hb.output.trans h.output, Nat.le_trans h.size hb.size, fun k hk h1 h2 => (hb.block k (Nat.lt_of_lt_of_le hk h.size)).trans (h.block k hk h1 h2)⟩
theorem Two.grown {w W W' : World} {r1 r2 r : Option Nat} (h : Two w W r1 r2) (hg : W.grownBy W' r) (hr : r = r1 ∨ r = r2 ∨ ∃ b, r = some b ∧ w.heap.size ≤ b) : Two w W' r1 r2 := by
  refine ⟨hg.os.trans h.os, hg.tape.trans h.tape, hg.output.trans h.output, Nat.le_trans h.size hg.size, fun k hk h1 h2 => (hg.block k (Nat.lt_of_lt_of_le hk h.size) (fun e => ?_)).trans (h.block k hk h1 h2)⟩
  rcases hr with hr | hr | ⟨b, hr, hle⟩
  · exact h1 (e.trans hr)
  · exact h2 (e.trans hr)
  · rw [hr] at e
    injection e with e
    omega
theorem Two.set {w W : World} {r1 r2 : Option Nat} (h : Two w W r1 r2) {p : Addr} (hp : w.heap.size ≤ p.block) (v : Value) : Two w (W.setCell p v) r1 r2 :=
  ⟨h.os, h.tape, h.output, by simpa [World.setCell] using h.size, fun k hk h1 h2 => (Below.heap_setCell W p v k (by omega)).trans (h.block k hk h1 h2)⟩
/-- The parameter's block and both lists. -/
structure Bw (w : World) (base : Nat) (A1 : Option Addr) (n1 c1 : Nat) (A2 : Option Addr) (n2 c2 : Nat) (cs : Array Value) (l1 : List SD) (l2 : List SE) (W : World) : Prop where
  bel : Below base w W
  own1 : Kd.R k58 58 W base (fun _ => True) (.slice A1 n1 c1) l1
  own2 : Kd.R k60 60 W base (fun _ => True) (.slice A2 n2 c2) l2
  box : W.heap[w.heap.size]? = some (.cells cs 46 (0, 0))
  hb : base ≤ w.heap.size
  bnd : ∀ x ∈ l1, x.f2.size ≤ 140737488351232
  two : Two w W (Value.slice A1 n1 c1).ownBlock (Value.slice A2 n2 c2).ownBlock
section
variable {w : World} {base : Nat} {A1 A2 : Option Addr} {n1 c1 n2 c2 g : Nat} {cs : Array Value} {l1 : List SD} {l2 : List SE} {W : World}
theorem Bw.step (h : Bw w base A1 n1 c1 A2 n2 c2 cs l1 l2 W) {W' : World} (hb : Below W.heap.size W W') : Bw w base A1 n1 c1 A2 n2 c2 cs l1 l2 W' :=
  ⟨below_then h.bel (Nat.le_trans h.hb h.bel.size) hb, Kd.R_below h.own1 hb, Kd.R_below h.own2 hb, (hb.block _ (blk_lt h.box)).trans h.box, h.hb, h.bnd, h.two.below hb⟩
theorem Bw.drew (h : Bw w base A1 n1 c1 A2 n2 c2 cs l1 l2 W) : Bw w base A1 n1 c1 A2 n2 c2 cs l1 l2 W.drew := h.step (below_drew (Below.refl _ _))
end
end Go.Proofs.YtejjidggnnhgjaaDoor.HImBk
/- marked, of layer 12's statements: a pair's lists written full and made longer touch those lists alone. -/
set_option linter.unusedVariables false
set_option linter.unusedSimpArgs false
namespace Go.Proofs.YtejjidggnnhgjaaDoor.HImMk
open Go.RowKit Go.Proofs.YtejjidggnnhgjaaDoor.PImg Go.Proofs.YtejjidggnnhgjaaDoor.HImP Go.Proofs.YtejjidggnnhgjaaDoor.HImD Go.Proofs.YtejjidggnnhgjaaDoor.HImL Go.Proofs.YtejjidggnnhgjaaDoor.HImNm Go.Proofs.YtejjidggnnhgjaaDoor.HImBk Go.Proofs.YtejjidggnnhgjaaDoorW.PrintWords Go.Proofs.YtejjidggnnhgjaaDoorW.PrintLast Go.Proofs.YtejjidggnnhgjaaDoorW.PrintMore Go.Proofs.YtejjidggnnhgjaaDoor.HCore
/-- The parameter's block and both lists. -/
structure Mw (w : World) (base : Nat) (v1 v2 : Value) (cs : Array Value) (u1 u2 : Value) (l1 : List SD) (l2 : List SE) (W : World) : Prop where
  two : Two w W v1.ownBlock v2.ownBlock
  bel : Below base w W
  own1 : Kd.R k58 58 W base (fun _ => True) u1 l1
  own2 : Kd.R k60 60 W base (fun _ => True) u2 l2
  box : W.heap[w.heap.size]? = some (.cells cs 46 (0, 0))
  hb : base ≤ w.heap.size
  b1 : u1.ownBlock = v1.ownBlock ∨ ∃ b, u1.ownBlock = some b ∧ w.heap.size ≤ b
  b2 : u2.ownBlock = v2.ownBlock ∨ ∃ b, u2.ownBlock = some b ∧ w.heap.size ≤ b
section
variable {w : World} {base : Nat} {v1 v2 u1 u2 u1' u2' : Value} {cs : Array Value} {l1 l1' : List SD} {l2 l2' : List SE} {W W' : World}
theorem Mw.step (h : Mw w base v1 v2 cs u1 u2 l1 l2 W) (hb : Below W.heap.size W W') : Mw w base v1 v2 cs u1 u2 l1 l2 W' :=
  ⟨h.two.below hb, below_then h.bel (Nat.le_trans h.hb h.bel.size) hb, Kd.R_below h.own1 hb, Kd.R_below h.own2 hb, (hb.block _ (blk_lt h.box)).trans h.box, h.hb, h.b1, h.b2⟩
theorem Mw.put (h : Mw w base v1 v2 cs u1 u2 l1 l2 W) (j : Nat) (u : Value) : Mw w base v1 v2 (cs.setIfInBounds j u) u1 u2 l1 l2 (W.setCell ⟨w.heap.size, j, none⟩ u) :=
  ⟨h.two.set (p := ⟨w.heap.size, j, none⟩) (Nat.le_refl _) u, h.bel.setCell (p := ⟨w.heap.size, j, none⟩) h.hb u, Kd.R_set h.own1 h.box (by decide) j u, Kd.R_set h.own2 h.box (by decide) j u, blk_set h.box j u, h.hb, h.b1, h.b2⟩
end
end Go.Proofs.YtejjidggnnhgjaaDoor.HImMk
/- A loose reading that is laid down again as it was is the strict one. Plain laws. -/
set_option linter.unusedVariables false
set_option linter.unusedSimpArgs false
namespace Go.Proofs.YtejjidggnnhgjaaDoor.HImS2
open Go.RowKit Go.Proofs.YtejjidggnnhgjaaDoor.PImg Go.Proofs.YtejjidggnnhgjaaDoor.HBlob Go.Proofs.YtejjidggnnhgjaaDoor.HCk Go.Proofs.YtejjidggnnhgjaaDoor.HImgR Go.Proofs.YtejjidggnnhgjaaDoor.HImgO Go.Proofs.YtejjidggnnhgjaaDoor.HImP Go.Proofs.YtejjidggnnhgjaaDoor.HImD Go.Proofs.YtejjidggnnhgjaaDoor.HImE Go.Proofs.YtejjidggnnhgjaaDoor.HImF Go.Proofs.YtejjidggnnhgjaaDoor.HImS Go.Proofs.YtejjidggnnhgjaaDoorW.PrintWords Go.Proofs.YtejjidggnnhgjaaDoorW.PrintLast Go.Proofs.YtejjidggnnhgjaaDoor.HCore
theorem lr_all {X : Type} {rec : Int → (Int × Bool) → X × (Int × Bool)} {nx : X → Int} {Q : X → Prop} (h : ∀ st c, Q (rec st c).1) : ∀ (n : Nat) (st : Int) (c : Int × Bool) (l : List X), (∀ x ∈ l, Q x) → ∀ x ∈ (lr rec nx n st c l).1, Q x := by
  intro n
  induction n with
  | zero => intro st c l hl; exact hl
  | succ n ih =>
    intro st c l hl
    simp only [lr]
    split
    · exact hl
    · refine ih _ _ _ (fun x hx => ?_)
      rcases List.mem_append.1 hx with hx | hx
      · exact hl x hx
      · rw [List.mem_singleton.1 hx]; exact h st c
theorem lrN_su (s : ByteArray) (st : Int) (c : Int × Bool) : Su (lrN s st c).1 := by
  unfold lrN Su
  simp only
  have h6 := cf_rng s (cs s (cs s (cs s (cn s (cn s (cs s c).2).2).2).2).2).2
  have h7 := cf_rng s (cf s (cs s (cs s (cs s (cn s (cn s (cs s c).2).2).2).2).2).2).2
  exact ⟨⟨h6.1, by omega⟩, ⟨h7.1, by omega⟩⟩
theorem ldN_su (s : ByteArray) : ∀ x ∈ (ldN s).1.2.2.2, Su x := by
  unfold ldN
  exact lr_all (fun st c => lrN_su s st c) _ _ _ _ (fun x hx => by cases hx)
theorem ldN_up (s : ByteArray) : 0 ≤ (ldN s).1.2.2.1 := by unfold ldN; exact (cn_rng _ _).1
theorem looseN_yes {b : ByteArray} (ho : opn b ltN = 0) {r : (Int × Int × Int × List SN) × Bool} (hr : ldN (ins b) = r) (hb : r.2 = false) (hg : gdN r.1.1 r.1.2.1 r.1.2.2.1 r.1.2.2.2 = true) (hf : fileOf ltN (byN r.1.1 r.1.2.1 r.1.2.2.1 r.1.2.2.2) = b) : HImDm.val b = r.1 ∧ HImDm.code b = 0 := by
  have hlo : 0 ≤ r.1.2.2.1 := by rw [← hr]; exact ldN_up _
  have hl := (file_iff rfl ho).1 hf
  have hsu' : ∀ x ∈ r.1.2.2.2, Su x := by rw [← hr]; exact ldN_su (ins b)
  obtain ⟨q, h1, h2⟩ := dcN_fwd (t := []) hsu' hlo hg (by rw [List.append_nil]; exact hl.symm)
  exact HImDm.some_val ho h1 (h2.end_iff.2 rfl)
theorem looseN_no {b : ByteArray} (ho : opn b ltN = 0) {r : (Int × Int × Int × List SN) × Bool} (hr : ldN (ins b) = r) (hn : ¬ (r.2 = false ∧ gdN r.1.1 r.1.2.1 r.1.2.2.1 r.1.2.2.2 = true ∧ fileOf ltN (byN r.1.1 r.1.2.1 r.1.2.2.1 r.1.2.2.2) = b)) : HImDm.val b = (0, 0, 0, []) ∧ HImDm.code b = 125 := by
  cases hd : dcN (ins b) with
  | none => exact HImDm.none_val ho hd
  | some x =>
    by_cases hx : x.2 = ((ins b).size : Int)
    · exfalso
      obtain ⟨⟨gen, next, upto, ps⟩, q⟩ := x
      obtain ⟨g, h0, hsu, t, e, hs⟩ := dcN_drop hd
      have ht : t = [] := hs.end_iff.1 hx
      subst ht
      rw [List.append_nil] at e
      have h5 := ldN_fwd hsu h0 g e
      rw [hr] at h5
      subst h5
      exact hn ⟨rfl, g, (file_iff rfl ho).2 e.symm⟩
    · exact HImDm.short_val ho hd hx
end Go.Proofs.YtejjidggnnhgjaaDoor.HImS2
/- What may be, by the program and by the document: both come to the plain functions. -/
set_option linter.unusedVariables false
set_option linter.unusedSimpArgs false
namespace Go.Proofs.YtejjidggnnhgjaaDoor.HImK
open Go.RowKit Go.Proofs.YtejjidggnnhgjaaDoor.PImg Go.Proofs.YtejjidggnnhgjaaDoor.HImP Go.Proofs.YtejjidggnnhgjaaDoor.HImD Go.Proofs.YtejjidggnnhgjaaDoorW.PrintWords Go.Proofs.YtejjidggnnhgjaaDoorW.PrintLast Go.Proofs.YtejjidggnnhgjaaDoor.HCore
theorem wstep (n : Nat) (h : n < 1152921504606846976) : wrap64 ((n : Int) + 1) = ((n + 1 : Nat) : Int) := by rw [w64 (by omega) (by omega)]; omega
theorem getD_mid {X : Type} (pre : List X) (x z : X) (rest : List X) : (pre ++ x :: rest).getD ((pre.length : Int)).toNat z = x := by
  rw [Int.toNat_natCast, List.getD_eq_getElem?_getD, List.getElem?_append_right (Nat.le_refl _), Nat.sub_self]
  rfl
/-! ### a manifest, by the document -/
theorem name_f (gen next upto : Int) (ps : List SN) (n : SN) (last : Int) (k : Nat) (hk : 2 ≤ k) : strataref12_nameMay.f k gen next upto ps n.f0 n.f1 n.f2 n.f3 n.f4 n.f5 n.f6 n.f7 last = some (cN gen next upto last n) := by
  obtain ⟨k, rfl⟩ : ∃ m, k = m + 2 := ⟨k - 2, by omega⟩
  have hj1 : ∀ c : Bool, strataref12_nameMay.j1 (k + 1) c n.f0 n.f1 n.f2 n.f3 n.f4 n.f5 n.f6 n.f7 = if c = true then some false else if n.f4 = 0 then (if n.f5 = 0 then some (n.f7 == 0) else some false) else some (decide (n.f5 > 0)) := fun c => by simp only [strataref12_nameMay.j1]
  unfold strataref12_nameMay.f cN
  by_cases a1 : n.f0 < 1
  · rw [if_pos a1, strataref12_nameMay.j0, if_pos rfl, decide_eq_false (fun h => by omega)]
  rw [if_neg a1]
  by_cases a2 : n.f0 ≥ next
  · rw [if_pos a2, strataref12_nameMay.j0, if_pos rfl, decide_eq_false (fun h => by omega)]
  rw [if_neg a2]
  by_cases a3 : n.f1 < last
  · rw [if_pos a3, strataref12_nameMay.j0, if_pos rfl, decide_eq_false (fun h => by omega)]
  rw [if_neg a3]
  by_cases a4 : n.f1 ≥ n.f2
  · rw [if_pos a4, strataref12_nameMay.j0, if_pos rfl, decide_eq_false (fun h => by omega)]
  rw [if_neg a4, strataref12_nameMay.j0]
  by_cases a5 : n.f2 > upto
  · rw [decide_eq_true a5, if_pos rfl, decide_eq_false (fun h => by omega)]
  rw [decide_eq_false a5, if_neg (by decide)]
  by_cases b1 : n.f3 < 0
  · rw [if_pos b1, hj1, if_pos rfl, decide_eq_false (fun h => by omega)]
  rw [if_neg b1]
  by_cases b2 : n.f3 > 65536
  · rw [if_pos b2, hj1, if_pos rfl, decide_eq_false (fun h => by omega)]
  rw [if_neg b2]
  by_cases b3 : n.f4 < 0
  · rw [if_pos b3, hj1, if_pos rfl, decide_eq_false (fun h => by omega)]
  rw [if_neg b3]
  by_cases b4 : n.f4 > gen
  · rw [if_pos b4, hj1, if_pos rfl, decide_eq_false (fun h => by omega)]
  rw [if_neg b4]
  by_cases b5 : n.f5 < 0
  · rw [if_pos b5, hj1, if_pos rfl, decide_eq_false (fun h => by omega)]
  rw [if_neg b5, hj1]
  by_cases b6 : n.f5 > n.f3
  · rw [decide_eq_true b6, if_pos rfl, decide_eq_false (fun h => by omega)]
  rw [decide_eq_false b6, if_neg (by decide)]
  by_cases c1 : n.f4 = 0
  · rw [if_pos c1]
    by_cases c2 : n.f5 = 0
    · rw [if_pos c2]
      by_cases c3 : n.f7 = 0
      · rw [decide_eq_true (by omega), c3]; rfl
      · rw [decide_eq_false (fun h => c3 (by omega)), beq_eq_false_iff_ne.2 c3]
    · rw [if_neg c2, decide_eq_false (fun h => by omega)]
  · rw [if_neg c1]
    by_cases c2 : n.f5 > 0
    · rw [decide_eq_true c2, decide_eq_true (by omega)]
    · rw [decide_eq_false c2, decide_eq_false (fun h => by omega)]
/-- Each name for itself, and none of a number that stands ahead. -/
def og (g n u : Int) : Int → List Int → List SN → Bool
  | _, _, [] => true
  | st, acc, x :: xs => cN g n u st x && (decide (x.f0 ∉ acc) && og g n u x.f2 (acc ++ [x.f0]) xs)
theorem og_is (g n u : Int) : ∀ (xs : List SN) (st : Int) (acc : List Int), acc.Nodup → og g n u st acc xs = (oksN g n u st xs && decide (acc ++ xs.map (fun p => p.f0)).Nodup) := by
  intro xs
  induction xs with
  | nil => intro st acc ha; simp [og, oksN, ha]
  | cons x xs ih =>
    intro st acc ha
    simp only [og, oksN, List.map_cons]
    by_cases hx : x.f0 ∈ acc
    · rw [decide_eq_false (fun h => h hx), Bool.false_and, Bool.and_false]
      rw [decide_eq_false (fun h => by
        rw [List.nodup_append] at h
        exact h.2.2 x.f0 hx x.f0 (List.mem_cons_self ..) rfl), Bool.and_false]
    · rw [decide_eq_true hx, Bool.true_and, ih x.f2 (acc ++ [x.f0]) (by
        rw [List.nodup_append]
        exact ⟨ha, by simp, fun a h1 b h2 => by rw [List.mem_singleton] at h2; subst h2; exact fun e => hx (e ▸ h1)⟩), List.append_assoc, List.singleton_append, Bool.and_assoc]
      rfl
theorem rN_inner (g n u last : Int) (i : Nat) (x : SN) (ps : List SN) (hi : ps[i]? = some x) (hn : ps.length < 1152921504606846976) : ∀ (d j k : Nat), j + d = i → d < k →
    ((∃ m, j ≤ m ∧ m < i ∧ ∃ y, ps[m]? = some y ∧ y.f0 = x.f0) → strataref12_manifestMay.l1 k last (i : Int) (j : Int) g n u ps = some false) ∧
    ((¬ ∃ m, j ≤ m ∧ m < i ∧ ∃ y, ps[m]? = some y ∧ y.f0 = x.f0) → strataref12_manifestMay.l1 k last (i : Int) (j : Int) g n u ps = strataref12_manifestMay.l0 (k - d - 1) last ((i + 1 : Nat) : Int) g n u ps) := by
  have hil : i < ps.length := by
    rcases Nat.lt_or_ge i ps.length with h | h
    · exact h
    · rw [List.getElem?_eq_none h] at hi; cases hi
  have hrx : rd_T36 ps (i : Int) = x := by unfold rd_T36; rw [Int.toNat_natCast, List.getD_eq_getElem?_getD, hi]; rfl
  intro d
  induction d with
  | zero =>
    intro j k hj hk
    obtain ⟨k, rfl⟩ : ∃ m, k = m + 1 := ⟨k - 1, by omega⟩
    rw [strataref12_manifestMay.l1, if_neg (by omega), wstep _ (by omega)]
    refine ⟨fun h => ?_, fun _ => by simp⟩
    obtain ⟨m, h1, h2, _⟩ := h
    omega
  | succ d ih =>
    intro j k hj hk
    obtain ⟨k, rfl⟩ : ∃ m, k = m + 1 := ⟨k - 1, by omega⟩
    have hjl : j < ps.length := by omega
    have hry : rd_T36 ps (j : Int) = ps[j] := by unfold rd_T36; rw [Int.toNat_natCast, List.getD_eq_getElem?_getD, List.getElem?_eq_getElem hjl]; rfl
    rw [strataref12_manifestMay.l1, if_pos (by omega), if_pos (by omega), if_pos (by omega), if_pos (by omega), if_pos (by omega), hrx, hry]
    by_cases he : ps[j].f0 = x.f0
    · rw [if_pos he]
      exact ⟨fun _ => rfl, fun h => absurd ⟨j, Nat.le_refl _, by omega, _, List.getElem?_eq_getElem hjl, he⟩ h⟩
    · rw [if_neg he, wstep _ (by omega)]
      have e : (∃ m, j + 1 ≤ m ∧ m < i ∧ ∃ y, ps[m]? = some y ∧ y.f0 = x.f0) ↔ (∃ m, j ≤ m ∧ m < i ∧ ∃ y, ps[m]? = some y ∧ y.f0 = x.f0) := by
        constructor
        · rintro ⟨m, h1, h2, h3⟩; exact ⟨m, by omega, h2, h3⟩
        · rintro ⟨m, h1, h2, y, h3, h4⟩
          refine ⟨m, ?_, h2, y, h3, h4⟩
          rcases Nat.lt_or_ge j m with h | h
          · exact h
          · have : m = j := by omega
            subst this
            rw [List.getElem?_eq_getElem hjl] at h3
            cases h3
            exact absurd h4 he
      obtain ⟨i1, i2⟩ := ih (j + 1) k (by omega) (by omega)
      refine ⟨fun h => i1 (e.2 h), fun h => ?_⟩
      rw [i2 (fun g => h (e.1 g)), show k - d - 1 = k + 1 - (d + 1) - 1 by omega]
theorem rN_loop (g n u : Int) : ∀ (rest pre : List SN) (k : Nat) (last : Int), pre.length + rest.length < 1048576 → rest.length * (pre.length + rest.length + 4) + 3 < k →
    strataref12_manifestMay.l0 k last (pre.length : Int) g n u (pre ++ rest) = some (og g n u last (pre.map fun p => p.f0) rest) := by
  intro rest
  induction rest with
  | nil =>
    intro pre k last hn hk
    obtain ⟨k, rfl⟩ : ∃ m, k = m + 1 := ⟨k - 1, by omega⟩
    rw [strataref12_manifestMay.l0, if_neg (by simp)]
    rfl
  | cons x rest ih =>
    intro pre k last hn hk
    obtain ⟨k, rfl⟩ : ∃ m, k = m + 1 := ⟨k - 1, by omega⟩
    have hrd : rd_T36 (pre ++ x :: rest) (pre.length : Int) = x := getD_mid pre x _ rest
    have hlt : (pre.length : Int) < ((pre ++ x :: rest).length : Int) := by rw [List.length_append, List.length_cons]; omega
    have hlen : (pre ++ [x]).length = pre.length + 1 := by simp
    simp only [List.length_cons] at hn hk
    have hk2 : (rest.length + 1) * (pre.length + (rest.length + 1) + 4) = rest.length * (pre.length + (rest.length + 1) + 4) + (pre.length + (rest.length + 1) + 4) := by rw [Nat.add_mul, Nat.one_mul]
    rw [strataref12_manifestMay.l0, if_pos hlt, if_pos (by omega), hrd, name_f g n u _ x last k (by omega), Option.bind_some]
    simp only [og]
    cases cN g n u last x
    · rw [if_neg (by decide)]; rfl
    · rw [if_pos rfl, Bool.true_and]
      have hin := rN_inner g n u x.f2 pre.length x (pre ++ x :: rest) (by rw [List.getElem?_append_right (Nat.le_refl _), Nat.sub_self]; rfl) (by rw [List.length_append, List.length_cons]; omega) pre.length 0 k (by omega) (by omega)
      rw [show ((0 : Nat) : Int) = 0 from rfl] at hin
      have e : (∃ m, 0 ≤ m ∧ m < pre.length ∧ ∃ y, (pre ++ x :: rest)[m]? = some y ∧ y.f0 = x.f0) ↔ x.f0 ∈ pre.map fun p => p.f0 := by
        rw [List.mem_map]
        constructor
        · rintro ⟨m, _, h2, y, h3, h4⟩
          rw [List.getElem?_append_left h2, List.getElem?_eq_getElem h2] at h3
          cases h3
          exact ⟨_, List.getElem_mem h2, h4⟩
        · rintro ⟨y, hy, h4⟩
          obtain ⟨m, h2, rfl⟩ := List.getElem_of_mem hy
          exact ⟨m, Nat.zero_le _, h2, _, by rw [List.getElem?_append_left h2, List.getElem?_eq_getElem h2], h4⟩
      by_cases hc : x.f0 ∈ pre.map fun p => p.f0
      · rw [hin.1 (e.2 hc), decide_eq_false (fun h => h hc)]; rfl
      · rw [hin.2 (fun h => hc (e.1 h)), decide_eq_true hc, Bool.true_and]
        have hi2 := ih (pre ++ [x]) (k - pre.length - 1) x.f2 (by rw [hlen]; omega) (by rw [hlen, show pre.length + 1 + rest.length + 4 = pre.length + (rest.length + 1) + 4 by omega]; omega)
        rw [List.append_assoc, List.singleton_append, hlen, List.map_append] at hi2
        exact hi2
theorem mayN_f (gen next upto : Int) (ps : List SN) (k : Nat) (hk : 80000 ≤ k) : strataref12_manifestMay.f k gen next upto ps = some (gdN gen next upto ps) := by
  obtain ⟨k, rfl⟩ : ∃ m, k = m + 1 := ⟨k - 1, by omega⟩
  have hj : ∀ c : Bool, strataref12_manifestMay.j0 (k + 1) c gen next upto ps = if c = true then some false else strataref12_manifestMay.l0 k 0 0 gen next upto ps := fun c => by simp only [strataref12_manifestMay.j0]
  unfold strataref12_manifestMay.f gdN
  by_cases h1 : gen < 1
  · rw [if_pos h1, hj, if_pos rfl, decide_eq_false (fun h => by omega)]; rfl
  rw [if_neg h1]
  by_cases h2 : gen > 99999999
  · rw [if_pos h2, hj, if_pos rfl, decide_eq_false (fun h => by omega)]; rfl
  rw [if_neg h2]
  by_cases h3 : next < 1
  · rw [if_pos h3, hj, if_pos rfl, decide_eq_false (fun h => by omega)]; rfl
  rw [if_neg h3]
  by_cases h4 : next > 100000000
  · rw [if_pos h4, hj, if_pos rfl, decide_eq_false (fun h => by omega)]; rfl
  rw [if_neg h4]
  by_cases h5 : upto > 4611686018427387903
  · rw [if_pos h5, hj, if_pos rfl, decide_eq_false (fun h => by omega)]; rfl
  rw [if_neg h5, hj]
  by_cases h6 : (ps.length : Int) > 256
  · rw [decide_eq_true h6, if_pos rfl, decide_eq_false (fun h => by omega)]; rfl
  have hz : ps.length ≤ 256 := by omega
  have hm : ps.length * (ps.length + 4) ≤ 256 * 260 := Nat.mul_le_mul hz (by omega)
  have hl := rN_loop gen next upto ps [] k 0 (by simp; omega) (by simp; omega)
  simp only [List.nil_append, List.length_nil, List.map_nil] at hl
  rw [og_is _ _ _ _ _ _ List.nodup_nil, List.nil_append] at hl
  rw [show ((0 : Nat) : Int) = 0 from rfl] at hl
  rw [decide_eq_false h6, if_neg (by decide), decide_eq_true (show 1 ≤ gen ∧ gen ≤ 99999999 ∧ 1 ≤ next ∧ next ≤ 100000000 ∧ upto ≤ 4611686018427387903 ∧ ps.length ≤ 256 from ⟨by omega, by omega, by omega, by omega, by omega, hz⟩), Bool.true_and]
  exact hl
end Go.Proofs.YtejjidggnnhgjaaDoor.HImK
/- The document's writers of layer 12, as it prints them, come to the bytes of the plain functions. -/
set_option linter.unusedVariables false
set_option linter.unusedSimpArgs false
namespace Go.Proofs.YtejjidggnnhgjaaDoor.HImKe
open Go.RowKit Go.Proofs.YtejjidggnnhgjaaDoor.PImg Go.Proofs.YtejjidggnnhgjaaDoor.HBase Go.Proofs.YtejjidggnnhgjaaDoor.HBlob Go.Proofs.YtejjidggnnhgjaaDoor.HCk Go.Proofs.YtejjidggnnhgjaaDoor.HImP Go.Proofs.YtejjidggnnhgjaaDoor.HImD Go.Proofs.YtejjidggnnhgjaaDoor.HImE Go.Proofs.YtejjidggnnhgjaaDoor.HImK Go.Proofs.YtejjidggnnhgjaaDoorW.PrintWords Go.Proofs.YtejjidggnnhgjaaDoorW.PrintLast Go.Proofs.YtejjidggnnhgjaaDoor.HCore
/-- Bytes as numbers. -/
def nb (l : List UInt8) : List Int := l.map fun c => (c.toNat : Int)
theorem nb_len (l : List UInt8) : (nb l).length = l.length := List.length_map ..
theorem nb_app (l : List UInt8) (t : ByteArray) : nb l ++ bytesOf t = nb (l ++ t.data.toList) := by unfold nb bytesOf; rw [List.map_append]
theorem app_step {β : Type} (l : List UInt8) (t : ByteArray) (F : List Int → Option β) (h : l.length + t.size < 140737488355328) : (if (nb l).length + t.size < 140737488355328 then ((some (nb l ++ bytesOf t)).bind F) else none) = F (nb (l ++ t.data.toList)) := by
  rw [nb_len, if_pos h, Option.bind_some, nb_app]
theorem str_nb (l : List UInt8) : strOfNums (nb l) = ⟨l.toArray⟩ := by
  apply ba_ext
  rw [strOfNums_list]
  unfold nb
  rw [List.map_map]
  conv => rhs; rw [show (⟨l.toArray⟩ : ByteArray).data.toList = l by simp]
  conv => rhs; rw [← List.map_id l]
  apply List.map_congr_left
  intro c _
  show UInt8.ofNat ((c.toNat : Int)).toNat = c
  rw [Int.toNat_natCast]
  simp
theorem uv_f {v : Int} (h : 0 ≤ v ∧ v < 18446744073709551616) : strataref01_Uvarint.f v = some (uvb v.toNat) := by unfold strataref01_Uvarint.f; rw [if_pos ⟨h.1, by omega⟩]
theorem uvw_f {v : Int} (h : 0 ≤ v ∧ v < 18446744073709551616) : strataref01_Uvarint.f (IntKind.u64.wrap v) = some (uvb v.toNat) := by rw [wu64 h.1 (by omega)]; exact uv_f h
theorem fx_f {v : Int} (h : 0 ≤ v ∧ v < 4294967296) : strataref01_Fixed32.f v = some (fxb 4 v) := by unfold strataref01_Fixed32.f; rw [if_pos ⟨h.1, by omega⟩]
theorem seal_f (lt : ByteArray) (l : List UInt8) (hlt : lt.size = 8) (hl : l.length ≤ 100000000) (k : Nat) (hk : 2000000000 ≤ k) : strataref12_sealed.f k lt (nb l) = some (fileOf lt l) := by
  have hz : (⟨l.toArray⟩ : ByteArray).size = l.length := by rw [← size_list]
  have e : lt ++ (⟨l.toArray⟩ : ByteArray) = ⟨(lt.data.toList ++ l).toArray⟩ := by apply ba_ext; rw [append_list]
  have hz2 : (lt ++ (⟨l.toArray⟩ : ByteArray)).size = 8 + l.length := by rw [app_size, hlt, hz]
  unfold strataref12_sealed.f
  have hr := ck_rng (lt ++ ⟨l.toArray⟩)
  rw [str_nb, if_pos (by rw [hlt, hz]; omega), sum_is _ (by rw [hz2]; omega) k (by rw [hz2]; omega), Option.bind_some, fx_f ⟨hr.1, by omega⟩, Option.bind_some, if_pos (by rw [hz2, fxb_len]; omega)]
  unfold fileOf
  rw [e]
theorem eN_loop (gen next upto : Int) : ∀ (rest pre : List SN) (acc : List UInt8) (st : Int) (k : Nat), 0 ≤ st → oks okN nxN st rest → pre.length + rest.length ≤ 65536 → acc.length + 710 * rest.length ≤ 99999000 → 2000000000 + rest.length < k →
    strataref12_EncodeManifest.l0 k (nb acc) st (pre.length : Int) gen next upto (pre ++ rest) = some (fileOf ltN (acc ++ ens wrN nxN st rest), 0) := by
  intro rest
  induction rest with
  | nil =>
    intro pre acc st k h0 ho hn hl hk
    obtain ⟨k, rfl⟩ : ∃ m, k = m + 1 := ⟨k - 1, by omega⟩
    unfold strataref12_EncodeManifest.l0
    rw [if_neg (by simp), show (⟨#[83, 84, 82, 65, 77, 65, 78, 49]⟩ : ByteArray) = ltN from rfl, seal_f ltN acc rfl (by simp at hl; omega) k (by simp at hk; omega), Option.bind_some]
    simp [ens]
  | cons x rest ih =>
    intro pre acc st k h0 ho hn hl hk
    obtain ⟨k, rfl⟩ : ∃ m, k = m + 1 := ⟨k - 1, by omega⟩
    simp only [List.length_cons] at hn hl hk
    have hrd : rd_T36 (pre ++ x :: rest) (pre.length : Int) = x := getD_mid pre x _ rest
    have hlt : (pre.length : Int) < ((pre ++ x :: rest).length : Int) := by rw [List.length_append, List.length_cons]; omega
    have hlen : (pre ++ [x]).length = pre.length + 1 := by simp
    obtain ⟨⟨⟨o1, o1'⟩, o2, o3, o4, ⟨o5, o5'⟩, ⟨o6, o6'⟩, ⟨o7, o7'⟩, ⟨o8, o8'⟩, ⟨o9, o9'⟩⟩, ho2⟩ := ho
    have lu : ∀ v : Int, (ub v).length = (uvb v.toNat).size := fun v => by unfold ub; rw [size_list]
    have e1 := lu x.f0
    have e2 := lu (x.f1 - st)
    have e3 := lu (x.f2 - x.f1)
    have e4 := lu x.f3
    have e5 := lu x.f4
    have e6 := lu x.f5
    have z1 := ub_len x.f0
    have z2 := ub_len (x.f1 - st)
    have z3 := ub_len (x.f2 - x.f1)
    have z4 := ub_len x.f3
    have z5 := ub_len x.f4
    have z6 := ub_len x.f5
    have z7 := fb_len x.f6
    have z8 := fb_len x.f7
    have f7 : (fxb 4 x.f6).size = 4 := fxb_len 4 _
    have f8 : (fxb 4 x.f7).size = 4 := fxb_len 4 _
    have hi2 := ih (pre ++ [x]) ((((((((acc ++ ub x.f0) ++ ub (x.f1 - st)) ++ ub (x.f2 - x.f1)) ++ ub x.f3) ++ ub x.f4) ++ ub x.f5) ++ fb x.f6) ++ fb x.f7) x.f2 k (by omega) ho2 (by rw [hlen]; omega) (by simp only [List.length_append]; omega) (by omega)
    have hap : (pre ++ [x]) ++ rest = pre ++ x :: rest := by simp
    rw [hap, hlen] at hi2
    unfold strataref12_EncodeManifest.l0
    rw [if_pos hlt, if_pos (by omega), hrd, uvw_f ⟨by omega, by omega⟩, Option.bind_some, app_step _ _ _ (by omega), show (uvb x.f0.toNat).data.toList = ub x.f0 from rfl,
      uvw_f ⟨by omega, by omega⟩, Option.bind_some, app_step _ _ _ (by simp only [List.length_append]; omega), show (uvb (x.f1 - st).toNat).data.toList = ub (x.f1 - st) from rfl,
      uvw_f ⟨by omega, by omega⟩, Option.bind_some, app_step _ _ _ (by simp only [List.length_append]; omega), show (uvb (x.f2 - x.f1).toNat).data.toList = ub (x.f2 - x.f1) from rfl,
      uvw_f ⟨by omega, by omega⟩, Option.bind_some, app_step _ _ _ (by simp only [List.length_append]; omega), show (uvb x.f3.toNat).data.toList = ub x.f3 from rfl,
      uvw_f ⟨by omega, by omega⟩, Option.bind_some, app_step _ _ _ (by simp only [List.length_append]; omega), show (uvb x.f4.toNat).data.toList = ub x.f4 from rfl,
      uvw_f ⟨by omega, by omega⟩, Option.bind_some, app_step _ _ _ (by simp only [List.length_append]; omega), show (uvb x.f5.toNat).data.toList = ub x.f5 from rfl,
      fx_f ⟨o8, o8'⟩, Option.bind_some, app_step _ _ _ (by simp only [List.length_append]; omega), show (fxb 4 x.f6).data.toList = fb x.f6 from rfl,
      fx_f ⟨o9, o9'⟩, Option.bind_some, nb_len, if_pos (by simp only [List.length_append]; omega), nb_app, show (fxb 4 x.f7).data.toList = fb x.f7 from rfl, wstep _ (by omega), hi2]
    simp [ens, wrN, nxN]
theorem encN_f (gen next upto : Int) (ps : List SN) (h0 : 0 ≤ upto) (hs : ∀ x ∈ ps, Su x) (k : Nat) (hk : 13000000000000 ≤ k) :
    strataref12_EncodeManifest.f k gen next upto ps = some (if gdN gen next upto ps = true then (fileOf ltN (byN gen next upto ps), 0) else ((⟨#[]⟩ : ByteArray), 2)) := by
  unfold strataref12_EncodeManifest.f
  rw [mayN_f gen next upto ps k (by omega), Option.bind_some]
  cases hg : gdN gen next upto ps
  · rw [if_neg (by decide), if_neg (by decide)]
  · obtain ⟨⟨g1, g2, g3, g4, g5, g7⟩, g6⟩ := gdN_parts hs hg
    have lu : ∀ v : Int, (ub v).length = (uvb v.toNat).size := fun v => by unfold ub; rw [size_list]
    have e1 := lu gen
    have e2 := lu next
    have e3 := lu upto
    have e4 := lu ps.length
    have z1 := ub_len gen
    have z2 := ub_len next
    have z3 := ub_len upto
    have z4 := ub_len ps.length
    have hl := eN_loop gen next upto ps [] ((((([] : List UInt8) ++ ub gen) ++ ub next) ++ ub upto) ++ ub ps.length) 0 k (Int.le_refl 0) g6 (by simp; omega) (by simp only [List.length_append, List.length_nil]; omega) (by omega)
    simp only [List.nil_append, List.length_nil] at hl
    rw [show ((0 : Nat) : Int) = 0 from rfl] at hl
    rw [if_pos rfl, if_pos rfl, show ([] : List Int) = nb [] from rfl, uvw_f ⟨by omega, by omega⟩, Option.bind_some, app_step _ _ _ (by simp; omega), show (uvb gen.toNat).data.toList = ub gen from rfl, List.nil_append,
      uvw_f ⟨by omega, by omega⟩, Option.bind_some, app_step _ _ _ (by omega), show (uvb next.toNat).data.toList = ub next from rfl,
      uv_f ⟨by omega, by omega⟩, Option.bind_some, app_step _ _ _ (by rw [List.length_append]; omega), show (uvb upto.toNat).data.toList = ub upto from rfl,
      uvw_f ⟨by omega, by omega⟩, Option.bind_some, nb_len, if_pos (by simp only [List.length_append]; omega), nb_app, show (uvb ((ps.length : Int)).toNat).data.toList = ub ps.length from rfl, hl]
    unfold byN
    simp only [List.append_assoc]
end Go.Proofs.YtejjidggnnhgjaaDoor.HImKe
/- EncodeDelta of layer 12, by the document: bytes appended to a row of the call's own. -/
set_option linter.unusedVariables false
set_option linter.unusedSimpArgs false
namespace Go.Proofs.YtejjidggnnhgjaaDoor.HImEr
open Go.RowKit Go.Proofs.YtejjidggnnhgjaaDoor.PImg Go.Proofs.YtejjidggnnhgjaaDoor.HBase Go.Proofs.YtejjidggnnhgjaaDoor.HBlob Go.Proofs.YtejjidggnnhgjaaDoor.HCk Go.Proofs.YtejjidggnnhgjaaDoor.HImP Go.Proofs.YtejjidggnnhgjaaDoor.HImD Go.Proofs.YtejjidggnnhgjaaDoor.HImE Go.Proofs.YtejjidggnnhgjaaDoor.HImK Go.Proofs.YtejjidggnnhgjaaDoor.HImKe Go.Proofs.YtejjidggnnhgjaaDoorW.PrintWords Go.Proofs.YtejjidggnnhgjaaDoorW.PrintLast Go.Proofs.YtejjidggnnhgjaaDoorW.PrintMore Go.Proofs.YtejjidggnnhgjaaDoor.HCore
/-- What stands while bytes are appended: the row, and the parameter's block. -/
structure Ap (w W : World) (v : Value) (l : List UInt8) (cs : Array Value) : Prop where
  own : W.ownsRow w.heap.size 5 1 v (nb l).length (nums .u8 (nb l))
  below : Below w.heap.size w W
  box : W.heap[w.heap.size]? = some (.cells cs 46 (0, 0))
theorem Ap.step {w W W' : World} {v : Value} {l : List UInt8} {cs : Array Value} (h : Ap w W v l cs) (hb : Below W.heap.size W W') : Ap w W' v l cs :=
  ⟨Kd.own_of_R (enc := Value.int .u8) (h1 := fun _ => rfl) (Kd.R_below (Kd.R_of_own (enc := Value.int .u8) (h1 := fun _ => rfl) (ok := fun _ => True) h.own (fun _ _ => trivial)) hb), below_then h.below h.below.size hb, (hb.block _ (blk_lt h.box)).trans h.box⟩
end Go.Proofs.YtejjidggnnhgjaaDoor.HImEr
/- DecodeManifest of layer 12, by the document: read loosely, and laid down again. -/
set_option linter.unusedVariables false
set_option linter.unusedSimpArgs false
namespace Go.Proofs.YtejjidggnnhgjaaDoor.HImSm
open Go.RowKit Go.Proofs.YtejjidggnnhgjaaDoor.PImg Go.Proofs.YtejjidggnnhgjaaDoor.HBase Go.Proofs.YtejjidggnnhgjaaDoor.HBlob Go.Proofs.YtejjidggnnhgjaaDoor.HCk Go.Proofs.YtejjidggnnhgjaaDoor.HImgR Go.Proofs.YtejjidggnnhgjaaDoor.HImgO Go.Proofs.YtejjidggnnhgjaaDoor.HImP Go.Proofs.YtejjidggnnhgjaaDoor.HImD Go.Proofs.YtejjidggnnhgjaaDoor.HImE Go.Proofs.YtejjidggnnhgjaaDoor.HImF Go.Proofs.YtejjidggnnhgjaaDoor.HImK Go.Proofs.YtejjidggnnhgjaaDoor.HImKe Go.Proofs.YtejjidggnnhgjaaDoor.HImS Go.Proofs.YtejjidggnnhgjaaDoor.HImS2 Go.Proofs.YtejjidggnnhgjaaDoorW.PrintWords Go.Proofs.YtejjidggnnhgjaaDoorW.PrintLast Go.Proofs.YtejjidggnnhgjaaDoorW.PrintMore Go.Proofs.YtejjidggnnhgjaaDoor.HCore
set_option maxRecDepth 100000 in
set_option maxHeartbeats 16000000 in
theorem dec_any (b : ByteArray) (w : World) (hb : b.size ≤ 1048576) :
    Calls Tryd.prog 13 #[.string b] w fun e w' => ∃ u, e = .returned (.tuple #[.agg (HImCm.cells (HImDm.val b) u), .int .i64 (HImDm.code b)]) ∧ Kd.R k36 36 w' w.heap.size (fun _ => True) u (HImDm.val b).2.2.2 ∧ Below w.heap.size w w' := by
  have hw1 := heap_alloc_new w (.cells #[.int .i64 0, .int .i64 0, .int .u64 0, .slice none 0 0] 25)
  have H1 := Aside0.mk hw1
  clear hw1
  by_cases ho : opn b ltN = 0
  case neg =>
    have HV := Aside0.mk (HImDm.out_val ho)
    have HO0 := Aside0.mk ho
    clear ho
    go_enter Tryd.func13, Tryd.ntmps13
    go_wp2_with fail
    refine (opened_any b ltN _ (by omega) rfl).mono ?_
    rintro e w4 ⟨hb2, hop⟩
    rw [if_neg HO0.out] at hop
    subst hop
    have HR1 := Aside0.mk ((hb2.block _ (blk_lt H1.out)).trans H1.out)
    have HB := Aside0.mk (below_then (below_alloc (Below.refl w.heap.size w) (.cells #[.int .i64 0, .int .i64 0, .int .u64 0, .slice none 0 0] 25)) (by simp) hb2)
    have hk : (opn b ltN == 0) = false := beq_eq_false_iff_ne.2 HO0.out
    generalize opn b ltN = cd at hk HV ⊢
    clear hb2 HO0
    have d0 : _ = some (Value.int .i64 0) := (blk_cell HR1.out 0).trans rfl
    have d1 : _ = some (Value.int .i64 0) := (blk_cell HR1.out 1).trans rfl
    have d2 : _ = some (Value.int .u64 0) := (blk_cell HR1.out 2).trans rfl
    have d3 : _ = some (Value.slice none 0 0) := (blk_cell HR1.out 3).trans rfl
    have f0 := blk_frozen HR1.out 0
    have f1 := blk_frozen HR1.out 1
    have f2 := blk_frozen HR1.out 2
    have f3 := blk_frozen HR1.out 3
    go_wp2_with fail
    refine bodyPost_ret (v := .tuple #[.agg #[.int .i64 0, .int .i64 0, .int .u64 0, .slice none 0 0], .int .i64 cd]) (results_ct (fn := Tryd.f13) rfl _ _ w.heap.size 25 #[.int .i64 0, .int .i64 0, .int .u64 0, .slice none 0 0] (0, 0) _ rfl (by exact (blk_set ((blk_set ((blk_set ((blk_set HR1.out 0 (.int .i64 0)).trans rfl) 1 (.int .i64 0)).trans rfl) 2 (.int .u64 0)).trans rfl) 3 (.slice none 0 0)).trans rfl) Tryd.underlying25 rfl (by kernel_rfl)) rfl ?_
    refine ⟨_, by rw [HV.out.1, HV.out.2]; rfl, ?_, ((((HB.out.setCell (p := ⟨w.heap.size, 0, none⟩) (Nat.le_refl _) _).setCell (p := ⟨w.heap.size, 1, none⟩) (Nat.le_refl _) _).setCell (p := ⟨w.heap.size, 2, none⟩) (Nat.le_refl _) _).setCell (p := ⟨w.heap.size, 3, none⟩) (Nat.le_refl _) _)⟩
    rw [HV.out.1]
    exact Kd.R_nil _ _ _ _ _
  have HO0 := Aside0.mk ho
  have hs : (ins b).size ≤ 1048576 := by unfold ins; rw [← size_list, extract_list, extract_list, List.length_take, List.length_drop, List.length_take, List.drop_zero, size_list]; omega
  obtain ⟨s, hse⟩ : ∃ s, s = ins b := ⟨_, rfl⟩
  rw [← hse] at hs
  have hs2 : s.size ≤ 4611686018427387904 := by omega
  have HSE := Aside0.mk hse
  have HS := Aside0.mk hs2
  clear hse ho hs2
  have hld : ldN s = _ := rfl
  conv at hld => rhs; unfold ldN
  simp only at hld
  have HLD := Aside0.mk hld
  clear hld
  go_enter Tryd.func13, Tryd.ntmps13
  go_wp2_with fail
  refine (opened_any b ltN _ (by omega) rfl).mono ?_
  rintro e w2 ⟨hb2, hop⟩
  rw [if_pos HO0.out, ← HSE.out] at hop
  obtain ⟨gb, rfl, hcur⟩ := hop
  have HR1 := Aside0.mk ((hb2.block _ (blk_lt H1.out)).trans H1.out)
  have HB := Aside0.mk (below_then (below_alloc (Below.refl w.heap.size w) (.cells #[.int .i64 0, .int .i64 0, .int .u64 0, .slice none 0 0] 25)) (by simp) hb2)
  have hgb : w.heap.size < gb := by have := hcur.2; simp at this; omega
  have HC : Aside0 (Cu w w2 gb s (0, false)) := ⟨⟨hcur.1, Nat.le_of_lt hgb⟩⟩
  clear hb2 hcur
  go_wp2_with fail
  obtain ⟨gen, c_gen, hr_gen⟩ : ∃ x y, cs s (0, false) = (x, y) := ⟨_, _, rfl⟩
  have rg_gen := cs_rng s (0, false)
  rw [hr_gen] at rg_gen
  obtain ⟨gen_0, gen_1, gen_a⟩ := rg_gen
  simp only at gen_0 gen_1
  refine (small_any gb s (0, false) w _ HS.out HC.out HB.out).mono ?_
  rw [hr_gen]
  rintro e w3 ⟨rfl, hI, hB, hK⟩
  have hr3 : w3.heap[w.heap.size]? = some (.cells #[.int .i64 0, .int .i64 0, .int .u64 0, .slice none 0 0] 25 (0, 0)) := (hK.2 _ (blk_lt HR1.out) (by omega) (by simp)).trans HR1.out
  have hg3 : gb < w3.heap.size := blk_lt hI.1
  have HT : Aside0 (Lo k36 36 25 #[.int .i64 0, .int .i64 0, .int .u64 0, .slice none 0 0] w w3.heap.size gb gb s c_gen #[.int .i64 gen, .int .i64 0, .int .u64 0, .slice none 0 0] (.slice none 0 0) [] (w3.alloc (.cells #[.int .i64 gen, .int .i64 0, .int .u64 0, .slice none 0 0] 25))) := ⟨⟨below_alloc hB _, (heap_alloc_old _ _ (blk_lt hr3)).trans hr3, heap_alloc_new _ _, hI.alloc _, Kd.R_nil _ _ _ _ _, ⟨by omega, by omega, hgb⟩⟩⟩
  clear hI hB hK hr3 HR1 HB HC H1
  have c0 : _ = some (Value.int .i64 gen) := (blk_cell HT.out.pair 0).trans rfl
  have c1 : _ = some (Value.int .i64 0) := (blk_cell HT.out.pair 1).trans rfl
  have c2 : _ = some (Value.int .u64 0) := (blk_cell HT.out.pair 2).trans rfl
  have c3 : _ = some (Value.slice none 0 0) := (blk_cell HT.out.pair 3).trans rfl
  have g2 : _ = some (Value.bool _) := (blk_cell HT.out.cur.1 2).trans rfl
  go_wp2_with fail
  clear c0 c1 c2 c3 g2
  obtain ⟨pb, hpb⟩ : ∃ pb, pb = w3.heap.size := ⟨_, rfl⟩
  rw [← hpb] at HT ⊢
  clear hpb hg3
  obtain ⟨next, c_next, hr_next⟩ : ∃ x y, cs s c_gen = (x, y) := ⟨_, _, rfl⟩
  have rg_next := cs_rng s c_gen
  rw [hr_next] at rg_next
  obtain ⟨next_0, next_1, next_a⟩ := rg_next
  simp only at next_0 next_1
  refine (small_any gb s c_gen w _ HS.out HT.out.cur HT.out.below).mono ?_
  rw [hr_next]
  rintro e w13 ⟨rfl, hI, hB, hK⟩
  have HT := Aside0.mk (HT.out.reads (by decide) hI hB hK)
  have hK' := hK
  clear hI hB hK hK'
  have c0 : _ = some (Value.int .i64 gen) := (blk_cell HT.out.pair 0).trans rfl
  have c1 : _ = some (Value.int .i64 0) := (blk_cell HT.out.pair 1).trans rfl
  have c2 : _ = some (Value.int .u64 0) := (blk_cell HT.out.pair 2).trans rfl
  have c3 : _ = some (Value.slice none 0 0) := (blk_cell HT.out.pair 3).trans rfl
  have g2 : _ = some (Value.bool _) := (blk_cell HT.out.cur.1 2).trans rfl
  have ff := blk_frozen HT.out.pair 1
  have HT : Aside0 (Lo k36 36 25 #[.int .i64 0, .int .i64 0, .int .u64 0, .slice none 0 0] w pb gb gb s c_next #[.int .i64 gen, .int .i64 next, .int .u64 0, .slice none 0 0] (.slice none 0 0) [] (w13.setCell ⟨pb, 1, none⟩ (.int .i64 next))) := ⟨HT.out.put (by decide) 1 _⟩
  go_wp2_with fail
  clear c0 c1 c2 c3 g2
  clear ff
  obtain ⟨upto, c_upto, hr_upto⟩ : ∃ x y, cn s c_next = (x, y) := ⟨_, _, rfl⟩
  have rg_upto := cn_rng s c_next
  rw [hr_upto] at rg_upto
  obtain ⟨upto_0, upto_1, upto_a⟩ := rg_upto
  simp only at upto_0 upto_1
  refine (num_any gb s c_next w _ HS.out HT.out.cur HT.out.below).mono ?_
  rw [hr_upto]
  rintro e w14 ⟨rfl, hI, hB, hK⟩
  have HT := Aside0.mk (HT.out.reads (by decide) hI hB hK)
  have hK' := hK
  clear hI hB hK hK'
  have c0 : _ = some (Value.int .i64 gen) := (blk_cell HT.out.pair 0).trans rfl
  have c1 : _ = some (Value.int .i64 next) := (blk_cell HT.out.pair 1).trans rfl
  have c2 : _ = some (Value.int .u64 0) := (blk_cell HT.out.pair 2).trans rfl
  have c3 : _ = some (Value.slice none 0 0) := (blk_cell HT.out.pair 3).trans rfl
  have g2 : _ = some (Value.bool _) := (blk_cell HT.out.cur.1 2).trans rfl
  have ff := blk_frozen HT.out.pair 2
  have HT : Aside0 (Lo k36 36 25 #[.int .i64 0, .int .i64 0, .int .u64 0, .slice none 0 0] w pb gb gb s c_upto #[.int .i64 gen, .int .i64 next, .int .u64 upto, .slice none 0 0] (.slice none 0 0) [] (w14.setCell ⟨pb, 2, none⟩ (.int .u64 upto))) := ⟨HT.out.put (by decide) 2 _⟩
  go_wp2_with fail
  clear c0 c1 c2 c3 g2
  clear ff
  obtain ⟨n, c_n, hr_n⟩ : ∃ x y, cs s c_upto = (x, y) := ⟨_, _, rfl⟩
  have rg_n := cs_rng s c_upto
  rw [hr_n] at rg_n
  obtain ⟨n_0, n_1, n_a⟩ := rg_n
  simp only at n_0 n_1
  refine (small_any gb s c_upto w _ HS.out HT.out.cur HT.out.below).mono ?_
  rw [hr_n]
  rintro e w15 ⟨rfl, hI, hB, hK⟩
  have HT := Aside0.mk (HT.out.reads (by decide) hI hB hK)
  clear hI hB hK
  obtain ⟨N, rfl⟩ := Int.eq_ofNat_of_zero_le n_0
  have hld := HLD.out
  simp only [hr_gen, hr_next, hr_upto, hr_n, Int.toNat_natCast] at hld
  clear HLD
  obtain ⟨LR, hLR⟩ : ∃ LR, LR = lr (lrN s) nxN N 0 c_n [] := ⟨_, rfl⟩
  rw [← hLR] at hld
  have HLD := Aside0.mk hld
  have HLR := Aside0.mk hLR.symm
  clear hld hLR hr_gen hr_next hr_upto hr_n
  have c0 : _ = some (Value.int .i64 gen) := (blk_cell HT.out.pair 0).trans rfl
  have c1 : _ = some (Value.int .i64 next) := (blk_cell HT.out.pair 1).trans rfl
  have c2 : _ = some (Value.int .u64 upto) := (blk_cell HT.out.pair 2).trans rfl
  have c3 : _ = some (Value.slice none 0 0) := (blk_cell HT.out.pair 3).trans rfl
  have g2 : _ = some (Value.bool _) := (blk_cell HT.out.cur.1 2).trans rfl
  go_wp2
  clear c0 c1 c2 c3 g2
  have hpos : c_n.2 = false → 0 ≤ c_n.1 ∧ c_n.1 ≤ s.size := by
    intro h
    obtain ⟨q_n, p_n, e_n⟩ := n_a h
    obtain ⟨q_upto, p_upto, e_upto⟩ := upto_a q_n
    obtain ⟨q_next, p_next, e_next⟩ := next_a q_upto
    obtain ⟨q_gen, p_gen, e_gen⟩ := gen_a q_next
    simp only at *
    omega
  clear gen_a next_a upto_a n_a
  go_loopw [8, 9] (fun v8 v9 wr => ∃ (i : Nat) (c : Int × Bool) (last : Int) (u : Value) (l : List SN), v9 = .int .i64 (i : Int) ∧ v8 = .int .u64 last ∧ (0 ≤ last ∧ last ≤ 18446744073709551615) ∧ i ≤ N ∧ l.length = i ∧ (c.2 = false → 0 ≤ c.1 ∧ (l.length : Int) ≤ c.1 ∧ c.1 ≤ s.size) ∧ l.length ≤ s.size + 1 ∧ Aside0 (Lo k36 36 25 #[.int .i64 0, .int .i64 0, .int .u64 0, .slice none 0 0] w pb gb gb s c #[.int .i64 gen, .int .i64 next, .int .u64 upto, u] u l wr) ∧ Aside0 (lr (lrN s) nxN (N - i) last c l = LR) ∧ Aside0 (∀ x ∈ l, Su x)) (fun _ v9 _ => N - (intOf v9).toNat)
  case atStart => exact ⟨0, c_n, 0, _, [], rfl, rfl, by omega, by omega, rfl, fun h => by have := hpos h; rw [List.length_nil]; omega, by rw [List.length_nil]; omega, HT, HLR, ⟨fun x hx => by cases hx⟩⟩
  case round =>
    clear HT HLR hpos
    obtain ⟨i, c, last, u, l, rfl, rfl, last_b, hiN, rfl, hc, hlz, HT, HLR, HSu⟩ := hrel
    cases hcb : c.2
    case true =>
      have hL : LR = (l, c) := by
        rw [← HLR.out]
        cases N - l.length with
        | zero => rfl
        | succ m => simp only [lr, hcb, if_true]
      have HL := Aside0.mk hL
      clear hL HLR
      have g2 : _ = some (Value.bool true) := (blk_cell HT.out.cur.1 2).trans (by rw [hcb]; rfl)
      by_cases hlt : l.length < N
      case pos =>
        have hld := HLD.out
        rw [HL.out, hcb] at hld
        have hldb : ldN (ins b) = ((gen, next, upto, l), true) := by rw [← HSE.out]; exact hld
        have HLb := Aside0.mk hldb
        clear hld hldb HLD HL
        obtain ⟨A, cc, rfl, hcl, hC⟩ := Kd.R_reads HT.out.own
        have HCc := Aside0.mk hC
        clear hC
        have c0 : _ = some (Value.int .i64 gen) := (blk_cell HT.out.pair 0).trans rfl
        have c1 : _ = some (Value.int .i64 next) := (blk_cell HT.out.pair 1).trans rfl
        have c2 : _ = some (Value.int .u64 upto) := (blk_cell HT.out.pair 2).trans rfl
        have c3 : _ = some (Value.slice A l.length cc) := (blk_cell HT.out.pair 3).trans rfl
        go_wp2_with fail
        clear c0 c1 c2 c3
        obtain ⟨K, hK⟩ : ∃ K : Nat, 13000000000000 ≤ K := ⟨_, Nat.le_refl _⟩
        cases hgd : gdN gen next upto l
        case false =>
          have HE : Aside0 (strataref12_EncodeManifest.f K gen next upto l = some ((⟨#[]⟩ : ByteArray), 2)) := ⟨by rw [encN_f gen next upto l upto_0 (fun x hx => (HSu.out x hx)) K hK, hgd, if_neg (by decide)]⟩
          refine (strataref12_EncodeManifest.calls K gen next upto A cc l _ _ _ HCc.out hcl HE.out).mono ?_
          rintro e w40 ⟨rfl, hb⟩
          have HT := Aside0.mk (HT.out.step hb)
          clear hb HCc hK HE
          have g2 : _ = some (Value.bool true) := (blk_cell HT.out.cur.1 2).trans (by rw [hcb]; rfl)
          have HR1 := Aside0.mk HT.out.res
          have HB := Aside0.mk HT.out.below
          have HV := Aside0.mk (looseN_no HO0.out HLb.out (fun h => by have h2 := h.2.1; simp only [hgd] at h2; cases h2))
          clear HLb hgd
          have d0 : _ = some (Value.int .i64 0) := (blk_cell HR1.out 0).trans rfl
          have d1 : _ = some (Value.int .i64 0) := (blk_cell HR1.out 1).trans rfl
          have d2 : _ = some (Value.int .u64 0) := (blk_cell HR1.out 2).trans rfl
          have d3 : _ = some (Value.slice none 0 0) := (blk_cell HR1.out 3).trans rfl
          have f0 := blk_frozen HR1.out 0
          have f1 := blk_frozen HR1.out 1
          have f2 := blk_frozen HR1.out 2
          have f3 := blk_frozen HR1.out 3
          go_wp2_with fail
          refine bodyPost_ret (v := .tuple #[.agg #[.int .i64 0, .int .i64 0, .int .u64 0, .slice none 0 0], .int .i64 125]) (results_ct (fn := Tryd.f13) rfl _ _ w.heap.size 25 #[.int .i64 0, .int .i64 0, .int .u64 0, .slice none 0 0] (0, 0) _ rfl (by exact (blk_set ((blk_set ((blk_set ((blk_set HR1.out 0 (.int .i64 0)).trans rfl) 1 (.int .i64 0)).trans rfl) 2 (.int .u64 0)).trans rfl) 3 (.slice none 0 0)).trans rfl) Tryd.underlying25 rfl (by kernel_rfl)) rfl ?_
          refine ⟨_, by rw [HV.out.1, HV.out.2]; rfl, ?_, ((((HB.out.setCell (p := ⟨w.heap.size, 0, none⟩) (Nat.le_refl _) _).setCell (p := ⟨w.heap.size, 1, none⟩) (Nat.le_refl _) _).setCell (p := ⟨w.heap.size, 2, none⟩) (Nat.le_refl _) _).setCell (p := ⟨w.heap.size, 3, none⟩) (Nat.le_refl _) _)⟩
          rw [HV.out.1]
          exact Kd.R_nil _ _ _ _ _
        case true =>
          have HE : Aside0 (strataref12_EncodeManifest.f K gen next upto l = some ((fileOf ltN (byN gen next upto l)), 0)) := ⟨by rw [encN_f gen next upto l upto_0 (fun x hx => (HSu.out x hx)) K hK, hgd, if_pos rfl]⟩
          refine (strataref12_EncodeManifest.calls K gen next upto A cc l _ _ _ HCc.out hcl HE.out).mono ?_
          rintro e w40 ⟨rfl, hb⟩
          have HT := Aside0.mk (HT.out.step hb)
          clear hb HCc hK HE
          have g2 : _ = some (Value.bool true) := (blk_cell HT.out.cur.1 2).trans (by rw [hcb]; rfl)
          have HR1 := Aside0.mk HT.out.res
          have HB := Aside0.mk HT.out.below
          have HV := Aside0.mk (looseN_no HO0.out HLb.out (fun h => by cases h.1))
          clear HLb hgd
          generalize fileOf ltN (byN gen next upto l) = fo
          have d0 : _ = some (Value.int .i64 0) := (blk_cell HR1.out 0).trans rfl
          have d1 : _ = some (Value.int .i64 0) := (blk_cell HR1.out 1).trans rfl
          have d2 : _ = some (Value.int .u64 0) := (blk_cell HR1.out 2).trans rfl
          have d3 : _ = some (Value.slice none 0 0) := (blk_cell HR1.out 3).trans rfl
          have f0 := blk_frozen HR1.out 0
          have f1 := blk_frozen HR1.out 1
          have f2 := blk_frozen HR1.out 2
          have f3 := blk_frozen HR1.out 3
          go_wp2_with fail
          refine bodyPost_ret (v := .tuple #[.agg #[.int .i64 0, .int .i64 0, .int .u64 0, .slice none 0 0], .int .i64 125]) (results_ct (fn := Tryd.f13) rfl _ _ w.heap.size 25 #[.int .i64 0, .int .i64 0, .int .u64 0, .slice none 0 0] (0, 0) _ rfl (by exact (blk_set ((blk_set ((blk_set ((blk_set HR1.out 0 (.int .i64 0)).trans rfl) 1 (.int .i64 0)).trans rfl) 2 (.int .u64 0)).trans rfl) 3 (.slice none 0 0)).trans rfl) Tryd.underlying25 rfl (by kernel_rfl)) rfl ?_
          refine ⟨_, by rw [HV.out.1, HV.out.2]; rfl, ?_, ((((HB.out.setCell (p := ⟨w.heap.size, 0, none⟩) (Nat.le_refl _) _).setCell (p := ⟨w.heap.size, 1, none⟩) (Nat.le_refl _) _).setCell (p := ⟨w.heap.size, 2, none⟩) (Nat.le_refl _) _).setCell (p := ⟨w.heap.size, 3, none⟩) (Nat.le_refl _) _)⟩
          rw [HV.out.1]
          exact Kd.R_nil _ _ _ _ _
      case neg =>
        have hld := HLD.out
        rw [HL.out, hcb] at hld
        have hldb : ldN (ins b) = ((gen, next, upto, l), true) := by rw [← HSE.out]; exact hld
        have HLb := Aside0.mk hldb
        clear hld hldb HLD HL
        obtain ⟨A, cc, rfl, hcl, hC⟩ := Kd.R_reads HT.out.own
        have HCc := Aside0.mk hC
        clear hC
        have c0 : _ = some (Value.int .i64 gen) := (blk_cell HT.out.pair 0).trans rfl
        have c1 : _ = some (Value.int .i64 next) := (blk_cell HT.out.pair 1).trans rfl
        have c2 : _ = some (Value.int .u64 upto) := (blk_cell HT.out.pair 2).trans rfl
        have c3 : _ = some (Value.slice A l.length cc) := (blk_cell HT.out.pair 3).trans rfl
        go_wp2_with fail
        clear c0 c1 c2 c3
        obtain ⟨K, hK⟩ : ∃ K : Nat, 13000000000000 ≤ K := ⟨_, Nat.le_refl _⟩
        cases hgd : gdN gen next upto l
        case false =>
          have HE : Aside0 (strataref12_EncodeManifest.f K gen next upto l = some ((⟨#[]⟩ : ByteArray), 2)) := ⟨by rw [encN_f gen next upto l upto_0 (fun x hx => (HSu.out x hx)) K hK, hgd, if_neg (by decide)]⟩
          refine (strataref12_EncodeManifest.calls K gen next upto A cc l _ _ _ HCc.out hcl HE.out).mono ?_
          rintro e w40 ⟨rfl, hb⟩
          have HT := Aside0.mk (HT.out.step hb)
          clear hb HCc hK HE
          have g2 : _ = some (Value.bool true) := (blk_cell HT.out.cur.1 2).trans (by rw [hcb]; rfl)
          have HR1 := Aside0.mk HT.out.res
          have HB := Aside0.mk HT.out.below
          have HV := Aside0.mk (looseN_no HO0.out HLb.out (fun h => by have h2 := h.2.1; simp only [hgd] at h2; cases h2))
          clear HLb hgd
          have d0 : _ = some (Value.int .i64 0) := (blk_cell HR1.out 0).trans rfl
          have d1 : _ = some (Value.int .i64 0) := (blk_cell HR1.out 1).trans rfl
          have d2 : _ = some (Value.int .u64 0) := (blk_cell HR1.out 2).trans rfl
          have d3 : _ = some (Value.slice none 0 0) := (blk_cell HR1.out 3).trans rfl
          have f0 := blk_frozen HR1.out 0
          have f1 := blk_frozen HR1.out 1
          have f2 := blk_frozen HR1.out 2
          have f3 := blk_frozen HR1.out 3
          go_wp2_with fail
          refine bodyPost_ret (v := .tuple #[.agg #[.int .i64 0, .int .i64 0, .int .u64 0, .slice none 0 0], .int .i64 125]) (results_ct (fn := Tryd.f13) rfl _ _ w.heap.size 25 #[.int .i64 0, .int .i64 0, .int .u64 0, .slice none 0 0] (0, 0) _ rfl (by exact (blk_set ((blk_set ((blk_set ((blk_set HR1.out 0 (.int .i64 0)).trans rfl) 1 (.int .i64 0)).trans rfl) 2 (.int .u64 0)).trans rfl) 3 (.slice none 0 0)).trans rfl) Tryd.underlying25 rfl (by kernel_rfl)) rfl ?_
          refine ⟨_, by rw [HV.out.1, HV.out.2]; rfl, ?_, ((((HB.out.setCell (p := ⟨w.heap.size, 0, none⟩) (Nat.le_refl _) _).setCell (p := ⟨w.heap.size, 1, none⟩) (Nat.le_refl _) _).setCell (p := ⟨w.heap.size, 2, none⟩) (Nat.le_refl _) _).setCell (p := ⟨w.heap.size, 3, none⟩) (Nat.le_refl _) _)⟩
          rw [HV.out.1]
          exact Kd.R_nil _ _ _ _ _
        case true =>
          have HE : Aside0 (strataref12_EncodeManifest.f K gen next upto l = some ((fileOf ltN (byN gen next upto l)), 0)) := ⟨by rw [encN_f gen next upto l upto_0 (fun x hx => (HSu.out x hx)) K hK, hgd, if_pos rfl]⟩
          refine (strataref12_EncodeManifest.calls K gen next upto A cc l _ _ _ HCc.out hcl HE.out).mono ?_
          rintro e w40 ⟨rfl, hb⟩
          have HT := Aside0.mk (HT.out.step hb)
          clear hb HCc hK HE
          have g2 : _ = some (Value.bool true) := (blk_cell HT.out.cur.1 2).trans (by rw [hcb]; rfl)
          have HR1 := Aside0.mk HT.out.res
          have HB := Aside0.mk HT.out.below
          have HV := Aside0.mk (looseN_no HO0.out HLb.out (fun h => by cases h.1))
          clear HLb hgd
          generalize fileOf ltN (byN gen next upto l) = fo
          have d0 : _ = some (Value.int .i64 0) := (blk_cell HR1.out 0).trans rfl
          have d1 : _ = some (Value.int .i64 0) := (blk_cell HR1.out 1).trans rfl
          have d2 : _ = some (Value.int .u64 0) := (blk_cell HR1.out 2).trans rfl
          have d3 : _ = some (Value.slice none 0 0) := (blk_cell HR1.out 3).trans rfl
          have f0 := blk_frozen HR1.out 0
          have f1 := blk_frozen HR1.out 1
          have f2 := blk_frozen HR1.out 2
          have f3 := blk_frozen HR1.out 3
          go_wp2_with fail
          refine bodyPost_ret (v := .tuple #[.agg #[.int .i64 0, .int .i64 0, .int .u64 0, .slice none 0 0], .int .i64 125]) (results_ct (fn := Tryd.f13) rfl _ _ w.heap.size 25 #[.int .i64 0, .int .i64 0, .int .u64 0, .slice none 0 0] (0, 0) _ rfl (by exact (blk_set ((blk_set ((blk_set ((blk_set HR1.out 0 (.int .i64 0)).trans rfl) 1 (.int .i64 0)).trans rfl) 2 (.int .u64 0)).trans rfl) 3 (.slice none 0 0)).trans rfl) Tryd.underlying25 rfl (by kernel_rfl)) rfl ?_
          refine ⟨_, by rw [HV.out.1, HV.out.2]; rfl, ?_, ((((HB.out.setCell (p := ⟨w.heap.size, 0, none⟩) (Nat.le_refl _) _).setCell (p := ⟨w.heap.size, 1, none⟩) (Nat.le_refl _) _).setCell (p := ⟨w.heap.size, 2, none⟩) (Nat.le_refl _) _).setCell (p := ⟨w.heap.size, 3, none⟩) (Nat.le_refl _) _)⟩
          rw [HV.out.1]
          exact Kd.R_nil _ _ _ _ _
    have g2 : _ = some (Value.bool false) := (blk_cell HT.out.cur.1 2).trans (by rw [hcb]; rfl)
    by_cases hlt : l.length < N
    case neg =>
      have hL : LR = (l, c) := by
        rw [← HLR.out, show N - l.length = 0 by omega]
        rfl
      have HL := Aside0.mk hL
      clear hL HLR
      have hld := HLD.out
      rw [HL.out, hcb] at hld
      have hldb : ldN (ins b) = ((gen, next, upto, l), false) := by rw [← HSE.out]; exact hld
      have HLb := Aside0.mk hldb
      clear hld hldb HLD HL
      obtain ⟨A, cc, rfl, hcl, hC⟩ := Kd.R_reads HT.out.own
      have HCc := Aside0.mk hC
      clear hC
      have c0 : _ = some (Value.int .i64 gen) := (blk_cell HT.out.pair 0).trans rfl
      have c1 : _ = some (Value.int .i64 next) := (blk_cell HT.out.pair 1).trans rfl
      have c2 : _ = some (Value.int .u64 upto) := (blk_cell HT.out.pair 2).trans rfl
      have c3 : _ = some (Value.slice A l.length cc) := (blk_cell HT.out.pair 3).trans rfl
      go_wp2_with fail
      clear c0 c1 c2 c3
      obtain ⟨K, hK⟩ : ∃ K : Nat, 13000000000000 ≤ K := ⟨_, Nat.le_refl _⟩
      cases hgd : gdN gen next upto l
      case false =>
        have HE : Aside0 (strataref12_EncodeManifest.f K gen next upto l = some ((⟨#[]⟩ : ByteArray), 2)) := ⟨by rw [encN_f gen next upto l upto_0 (fun x hx => (HSu.out x hx)) K hK, hgd, if_neg (by decide)]⟩
        refine (strataref12_EncodeManifest.calls K gen next upto A cc l _ _ _ HCc.out hcl HE.out).mono ?_
        rintro e w40 ⟨rfl, hb⟩
        have HT := Aside0.mk (HT.out.step hb)
        clear hb HCc hK HE
        have g2 : _ = some (Value.bool false) := (blk_cell HT.out.cur.1 2).trans (by rw [hcb]; rfl)
        have HR1 := Aside0.mk HT.out.res
        have HB := Aside0.mk HT.out.below
        have HV := Aside0.mk (looseN_no HO0.out HLb.out (fun h => by have h2 := h.2.1; simp only [hgd] at h2; cases h2))
        clear HLb hgd
        have d0 : _ = some (Value.int .i64 0) := (blk_cell HR1.out 0).trans rfl
        have d1 : _ = some (Value.int .i64 0) := (blk_cell HR1.out 1).trans rfl
        have d2 : _ = some (Value.int .u64 0) := (blk_cell HR1.out 2).trans rfl
        have d3 : _ = some (Value.slice none 0 0) := (blk_cell HR1.out 3).trans rfl
        have f0 := blk_frozen HR1.out 0
        have f1 := blk_frozen HR1.out 1
        have f2 := blk_frozen HR1.out 2
        have f3 := blk_frozen HR1.out 3
        go_wp2_with fail
        refine bodyPost_ret (v := .tuple #[.agg #[.int .i64 0, .int .i64 0, .int .u64 0, .slice none 0 0], .int .i64 125]) (results_ct (fn := Tryd.f13) rfl _ _ w.heap.size 25 #[.int .i64 0, .int .i64 0, .int .u64 0, .slice none 0 0] (0, 0) _ rfl (by exact (blk_set ((blk_set ((blk_set ((blk_set HR1.out 0 (.int .i64 0)).trans rfl) 1 (.int .i64 0)).trans rfl) 2 (.int .u64 0)).trans rfl) 3 (.slice none 0 0)).trans rfl) Tryd.underlying25 rfl (by kernel_rfl)) rfl ?_
        refine ⟨_, by rw [HV.out.1, HV.out.2]; rfl, ?_, ((((HB.out.setCell (p := ⟨w.heap.size, 0, none⟩) (Nat.le_refl _) _).setCell (p := ⟨w.heap.size, 1, none⟩) (Nat.le_refl _) _).setCell (p := ⟨w.heap.size, 2, none⟩) (Nat.le_refl _) _).setCell (p := ⟨w.heap.size, 3, none⟩) (Nat.le_refl _) _)⟩
        rw [HV.out.1]
        exact Kd.R_nil _ _ _ _ _
      case true =>
        have HE : Aside0 (strataref12_EncodeManifest.f K gen next upto l = some ((fileOf ltN (byN gen next upto l)), 0)) := ⟨by rw [encN_f gen next upto l upto_0 (fun x hx => (HSu.out x hx)) K hK, hgd, if_pos rfl]⟩
        refine (strataref12_EncodeManifest.calls K gen next upto A cc l _ _ _ HCc.out hcl HE.out).mono ?_
        rintro e w40 ⟨rfl, hb⟩
        have HT := Aside0.mk (HT.out.step hb)
        clear hb HCc hK HE
        have g2 : _ = some (Value.bool false) := (blk_cell HT.out.cur.1 2).trans (by rw [hcb]; rfl)
        have HR1 := Aside0.mk HT.out.res
        have HB := Aside0.mk HT.out.below
        by_cases hf : fileOf ltN (byN gen next upto l) = b
        case neg =>
          have HV := Aside0.mk (looseN_no HO0.out HLb.out (fun h => hf h.2.2))
          have kq : ((fileOf ltN (byN gen next upto l)).toList == b.toList) = false := beq_eq_false_iff_ne.2 (fun h => hf (ba_ext (by rw [← toList_data, ← toList_data, h])))
          generalize fileOf ltN (byN gen next upto l) = fo at kq ⊢
          clear HLb hgd hf
          have d0 : _ = some (Value.int .i64 0) := (blk_cell HR1.out 0).trans rfl
          have d1 : _ = some (Value.int .i64 0) := (blk_cell HR1.out 1).trans rfl
          have d2 : _ = some (Value.int .u64 0) := (blk_cell HR1.out 2).trans rfl
          have d3 : _ = some (Value.slice none 0 0) := (blk_cell HR1.out 3).trans rfl
          have f0 := blk_frozen HR1.out 0
          have f1 := blk_frozen HR1.out 1
          have f2 := blk_frozen HR1.out 2
          have f3 := blk_frozen HR1.out 3
          go_wp2_with fail
          refine bodyPost_ret (v := .tuple #[.agg #[.int .i64 0, .int .i64 0, .int .u64 0, .slice none 0 0], .int .i64 125]) (results_ct (fn := Tryd.f13) rfl _ _ w.heap.size 25 #[.int .i64 0, .int .i64 0, .int .u64 0, .slice none 0 0] (0, 0) _ rfl (by exact (blk_set ((blk_set ((blk_set ((blk_set HR1.out 0 (.int .i64 0)).trans rfl) 1 (.int .i64 0)).trans rfl) 2 (.int .u64 0)).trans rfl) 3 (.slice none 0 0)).trans rfl) Tryd.underlying25 rfl (by kernel_rfl)) rfl ?_
          refine ⟨_, by rw [HV.out.1, HV.out.2]; rfl, ?_, ((((HB.out.setCell (p := ⟨w.heap.size, 0, none⟩) (Nat.le_refl _) _).setCell (p := ⟨w.heap.size, 1, none⟩) (Nat.le_refl _) _).setCell (p := ⟨w.heap.size, 2, none⟩) (Nat.le_refl _) _).setCell (p := ⟨w.heap.size, 3, none⟩) (Nat.le_refl _) _)⟩
          rw [HV.out.1]
          exact Kd.R_nil _ _ _ _ _
        have HV := Aside0.mk (looseN_yes HO0.out HLb.out rfl hgd hf)
        have HO := Aside0.mk HT.out.own
        rw [hf]
        clear HLb hgd hf
        have kq : (b.toList == b.toList) = true := beq_iff_eq.2 rfl
        have c0 : _ = some (Value.int .i64 gen) := (blk_cell HT.out.pair 0).trans rfl
        have c1 : _ = some (Value.int .i64 next) := (blk_cell HT.out.pair 1).trans rfl
        have c2 : _ = some (Value.int .u64 upto) := (blk_cell HT.out.pair 2).trans rfl
        have c3 : _ = some (Value.slice A l.length cc) := (blk_cell HT.out.pair 3).trans rfl
        have d0 : _ = some (Value.int .i64 0) := (blk_cell HR1.out 0).trans rfl
        have d1 : _ = some (Value.int .i64 0) := (blk_cell HR1.out 1).trans rfl
        have d2 : _ = some (Value.int .u64 0) := (blk_cell HR1.out 2).trans rfl
        have d3 : _ = some (Value.slice none 0 0) := (blk_cell HR1.out 3).trans rfl
        have f0 := blk_frozen HR1.out 0
        have f1 := blk_frozen HR1.out 1
        have f2 := blk_frozen HR1.out 2
        have f3 := blk_frozen HR1.out 3
        go_wp2_with fail
        refine bodyPost_ret (v := .tuple #[.agg #[.int .i64 gen, .int .i64 next, .int .u64 upto, .slice A l.length cc], .int .i64 0]) (results_ct (fn := Tryd.f13) rfl _ _ w.heap.size 25 #[.int .i64 gen, .int .i64 next, .int .u64 upto, .slice A l.length cc] (0, 0) _ rfl (by exact (blk_set ((blk_set ((blk_set ((blk_set HR1.out 0 (.int .i64 gen)).trans rfl) 1 (.int .i64 next)).trans rfl) 2 (.int .u64 upto)).trans rfl) 3 (.slice A l.length cc)).trans rfl) Tryd.underlying25 rfl (by kernel_rfl)) rfl ?_
        refine ⟨_, by rw [HV.out.1, HV.out.2]; rfl, ?_, ((((HB.out.setCell (p := ⟨w.heap.size, 0, none⟩) (Nat.le_refl _) _).setCell (p := ⟨w.heap.size, 1, none⟩) (Nat.le_refl _) _).setCell (p := ⟨w.heap.size, 2, none⟩) (Nat.le_refl _) _).setCell (p := ⟨w.heap.size, 3, none⟩) (Nat.le_refl _) _)⟩
        rw [HV.out.1]
        exact Kd.R_mono (Kd.R_far (p := ⟨w.heap.size, 3, none⟩) (Kd.R_far (p := ⟨w.heap.size, 2, none⟩) (Kd.R_far (p := ⟨w.heap.size, 1, none⟩) (Kd.R_far (p := ⟨w.heap.size, 0, none⟩) (Kd.R_types HO.out HR1.out (by decide)) (fun _ hk => hk.2) _) (fun _ hk => hk.2) _) (fun _ hk => hk.2) _) (fun _ hk => hk.2) _) (fun _ _ => trivial)
    obtain ⟨m, hm⟩ : ∃ m, N - l.length = m + 1 := ⟨N - l.length - 1, by omega⟩
    have hLR := HLR.out
    rw [hm] at hLR
    simp only [lr, hcb, Bool.false_eq_true, if_false] at hLR
    have HLR := Aside0.mk hLR
    clear hLR
    obtain ⟨hc0, hc1, hc2⟩ := hc hcb
    clear hc
    go_wp2_with fail
    clear g2
    obtain ⟨a, c_a, hr_a⟩ : ∃ x y, cs s c = (x, y) := ⟨_, _, rfl⟩
    have rg_a := cs_rng s c
    rw [hr_a] at rg_a
    obtain ⟨a_0, a_1, a_a⟩ := rg_a
    simp only at a_0 a_1
    refine (small_any gb s c w _ HS.out HT.out.cur HT.out.below).mono ?_
    rw [hr_a]
    rintro e w16 ⟨rfl, hI, hB, hK⟩
    have HT := Aside0.mk (HT.out.reads (by decide) hI hB hK)
    clear hI hB hK
    have HV := Aside0.mk (heap_alloc_new w16 (.cells #[.int .i64 a, .int .u64 0, .int .u64 0, .int .i64 0, .int .i64 0, .int .i64 0, .int .u32 0, .int .u32 0] 36))
    have hnb : w.heap.size < w16.heap.size ∧ w16.heap.size ≠ pb ∧ w16.heap.size ≠ gb := ⟨blk_lt HT.out.res, Nat.ne_of_gt (blk_lt HT.out.pair), Nat.ne_of_gt (blk_lt HT.out.cur.1)⟩
    have HT := Aside0.mk (HT.out.new (.cells #[.int .i64 a, .int .u64 0, .int .u64 0, .int .i64 0, .int .i64 0, .int .i64 0, .int .u32 0, .int .u32 0] 36))
    go_wp2_with fail
    obtain ⟨nb, hnbe⟩ : ∃ nb, nb = w16.heap.size := ⟨_, rfl⟩
    rw [← hnbe] at HV HT hnb ⊢
    clear hnbe
    obtain ⟨b2, c_b2, hr_b2⟩ : ∃ x y, cn s c_a = (x, y) := ⟨_, _, rfl⟩
    have rg_b2 := cn_rng s c_a
    rw [hr_b2] at rg_b2
    obtain ⟨b2_0, b2_1, b2_a⟩ := rg_b2
    simp only at b2_0 b2_1
    refine (num_any gb s c_a w _ HS.out HT.out.cur HT.out.below).mono ?_
    rw [hr_b2]
    rintro e w17 ⟨rfl, hI, hB, hK⟩
    have HT := Aside0.mk (HT.out.reads (by decide) hI hB hK)
    have HV := Aside0.mk ((hK.2 _ (blk_lt HV.out) hnb.2.2 (by simp)).trans HV.out)
    clear hI hB hK
    have y0 : _ = some (Value.int .i64 a) := (blk_cell HV.out 0).trans rfl
    have y1 : _ = some (Value.int .u64 0) := (blk_cell HV.out 1).trans rfl
    have y2 : _ = some (Value.int .u64 0) := (blk_cell HV.out 2).trans rfl
    have y3 : _ = some (Value.int .i64 0) := (blk_cell HV.out 3).trans rfl
    have y4 : _ = some (Value.int .i64 0) := (blk_cell HV.out 4).trans rfl
    have y5 : _ = some (Value.int .i64 0) := (blk_cell HV.out 5).trans rfl
    have y6 : _ = some (Value.int .u32 0) := (blk_cell HV.out 6).trans rfl
    have y7 : _ = some (Value.int .u32 0) := (blk_cell HV.out 7).trans rfl
    have gf := blk_frozen HV.out 1
    have HV : Aside0 ((w17.setCell ⟨nb, 1, none⟩ (.int .u64 (IntKind.u64.wrap (last + b2)))).heap[nb]? = some (.cells #[.int .i64 a, .int .u64 (IntKind.u64.wrap (last + b2)), .int .u64 0, .int .i64 0, .int .i64 0, .int .i64 0, .int .u32 0, .int .u32 0] 36 (0, 0))) := ⟨(blk_set HV.out 1 (.int .u64 (IntKind.u64.wrap (last + b2)))).trans rfl⟩
    have HT := Aside0.mk (HT.out.far hnb 1 (.int .u64 (IntKind.u64.wrap (last + b2))))
    go_wp2_with fail
    clear y0 y1 y2 y3 y4 y5 y6 y7 gf
    obtain ⟨e2, c_e2, hr_e2⟩ : ∃ x y, cn s c_b2 = (x, y) := ⟨_, _, rfl⟩
    have rg_e2 := cn_rng s c_b2
    rw [hr_e2] at rg_e2
    obtain ⟨e2_0, e2_1, e2_a⟩ := rg_e2
    simp only at e2_0 e2_1
    go_upto_region 14 with (fail)
    have y0 : _ = some (Value.int .i64 a) := (blk_cell HV.out 0).trans rfl
    have y1 : _ = some (Value.int .u64 (IntKind.u64.wrap (last + b2))) := (blk_cell HV.out 1).trans rfl
    have y2 : _ = some (Value.int .u64 0) := (blk_cell HV.out 2).trans rfl
    have y3 : _ = some (Value.int .i64 0) := (blk_cell HV.out 3).trans rfl
    have y4 : _ = some (Value.int .i64 0) := (blk_cell HV.out 4).trans rfl
    have y5 : _ = some (Value.int .i64 0) := (blk_cell HV.out 5).trans rfl
    have y6 : _ = some (Value.int .u32 0) := (blk_cell HV.out 6).trans rfl
    have y7 : _ = some (Value.int .u32 0) := (blk_cell HV.out 7).trans rfl
    have gf := blk_frozen HV.out 2
    go_cut [] (fun wx => Aside0 (Lo k36 36 25 #[.int .i64 0, .int .i64 0, .int .u64 0, .slice none 0 0] w pb gb nb s c_e2 #[.int .i64 gen, .int .i64 next, .int .u64 upto, u] u l wx) ∧ Aside0 (wx.heap[nb]? = some (.cells #[.int .i64 a, .int .u64 (IntKind.u64.wrap (last + b2)), .int .u64 (IntKind.u64.wrap ((IntKind.u64.wrap (last + b2)) + e2)), .int .i64 0, .int .i64 0, .int .i64 0, .int .u32 0, .int .u32 0] 36 (0, 0))))
    case first =>
      go_region_with (first | (go_at_call 45; (with_reducible refine (num_any gb s c_b2 w _ HS.out HT.out.drew.cur HT.out.drew.below).mono ?_); rw [hr_e2]; rintro e wk ⟨rfl, hI, hB, hK⟩; have HT2 := Aside0.mk (HT.out.drew.reads (by decide) hI hB hK); have HV2 := Aside0.mk ((hK.2 nb (by exact blk_lt HV.out) hnb.2.2 (by simp)).trans HV.out); have z1 : _ = some (Value.int .u64 (IntKind.u64.wrap (last + b2))) := (blk_cell HV2.out 1).trans rfl; have z2 : _ = some (Value.int .u64 0) := (blk_cell HV2.out 2).trans rfl; have zf := blk_frozen HV2.out 2; clear hI hB hK))
      all_goals (go_wp2_with fail; go_meet; case rel => exact ⟨⟨HT2.out.far hnb 2 _⟩, ⟨(blk_set HV2.out 2 _).trans rfl⟩⟩)
    clear y0 y1 y2 y3 y4 y5 y6 y7 gf
    obtain ⟨HT, HV⟩ := hcut
    obtain ⟨k_e2, rfl⟩ : ∃ x, x = wc := ⟨_, rfl⟩
    have y0 : _ = some (Value.int .i64 a) := (blk_cell HV.out 0).trans rfl
    have y1 : _ = some (Value.int .u64 (IntKind.u64.wrap (last + b2))) := (blk_cell HV.out 1).trans rfl
    have y2 : _ = some (Value.int .u64 (IntKind.u64.wrap ((IntKind.u64.wrap (last + b2)) + e2))) := (blk_cell HV.out 2).trans rfl
    have y3 : _ = some (Value.int .i64 0) := (blk_cell HV.out 3).trans rfl
    have y4 : _ = some (Value.int .i64 0) := (blk_cell HV.out 4).trans rfl
    have y5 : _ = some (Value.int .i64 0) := (blk_cell HV.out 5).trans rfl
    have y6 : _ = some (Value.int .u32 0) := (blk_cell HV.out 6).trans rfl
    have y7 : _ = some (Value.int .u32 0) := (blk_cell HV.out 7).trans rfl
    go_wp2_with fail
    clear y0 y1 y2 y3 y4 y5 y6 y7
    obtain ⟨d3, c_d3, hr_d3⟩ : ∃ x y, cs s c_e2 = (x, y) := ⟨_, _, rfl⟩
    have rg_d3 := cs_rng s c_e2
    rw [hr_d3] at rg_d3
    obtain ⟨d3_0, d3_1, d3_a⟩ := rg_d3
    simp only at d3_0 d3_1
    refine (small_any gb s c_e2 w _ HS.out HT.out.cur HT.out.below).mono ?_
    rw [hr_d3]
    rintro e w18 ⟨rfl, hI, hB, hK⟩
    have HT := Aside0.mk (HT.out.reads (by decide) hI hB hK)
    have HV := Aside0.mk ((hK.2 _ (blk_lt HV.out) hnb.2.2 (by simp)).trans HV.out)
    clear hI hB hK
    have y0 : _ = some (Value.int .i64 a) := (blk_cell HV.out 0).trans rfl
    have y1 : _ = some (Value.int .u64 (IntKind.u64.wrap (last + b2))) := (blk_cell HV.out 1).trans rfl
    have y2 : _ = some (Value.int .u64 (IntKind.u64.wrap ((IntKind.u64.wrap (last + b2)) + e2))) := (blk_cell HV.out 2).trans rfl
    have y3 : _ = some (Value.int .i64 0) := (blk_cell HV.out 3).trans rfl
    have y4 : _ = some (Value.int .i64 0) := (blk_cell HV.out 4).trans rfl
    have y5 : _ = some (Value.int .i64 0) := (blk_cell HV.out 5).trans rfl
    have y6 : _ = some (Value.int .u32 0) := (blk_cell HV.out 6).trans rfl
    have y7 : _ = some (Value.int .u32 0) := (blk_cell HV.out 7).trans rfl
    have gf := blk_frozen HV.out 3
    have HV : Aside0 ((w18.setCell ⟨nb, 3, none⟩ (.int .i64 d3)).heap[nb]? = some (.cells #[.int .i64 a, .int .u64 (IntKind.u64.wrap (last + b2)), .int .u64 (IntKind.u64.wrap ((IntKind.u64.wrap (last + b2)) + e2)), .int .i64 d3, .int .i64 0, .int .i64 0, .int .u32 0, .int .u32 0] 36 (0, 0))) := ⟨(blk_set HV.out 3 (.int .i64 d3)).trans rfl⟩
    have HT := Aside0.mk (HT.out.far hnb 3 (.int .i64 d3))
    go_wp2_with fail
    clear y0 y1 y2 y3 y4 y5 y6 y7 gf
    obtain ⟨d4, c_d4, hr_d4⟩ : ∃ x y, cs s c_d3 = (x, y) := ⟨_, _, rfl⟩
    have rg_d4 := cs_rng s c_d3
    rw [hr_d4] at rg_d4
    obtain ⟨d4_0, d4_1, d4_a⟩ := rg_d4
    simp only at d4_0 d4_1
    refine (small_any gb s c_d3 w _ HS.out HT.out.cur HT.out.below).mono ?_
    rw [hr_d4]
    rintro e w19 ⟨rfl, hI, hB, hK⟩
    have HT := Aside0.mk (HT.out.reads (by decide) hI hB hK)
    have HV := Aside0.mk ((hK.2 _ (blk_lt HV.out) hnb.2.2 (by simp)).trans HV.out)
    clear hI hB hK
    have y0 : _ = some (Value.int .i64 a) := (blk_cell HV.out 0).trans rfl
    have y1 : _ = some (Value.int .u64 (IntKind.u64.wrap (last + b2))) := (blk_cell HV.out 1).trans rfl
    have y2 : _ = some (Value.int .u64 (IntKind.u64.wrap ((IntKind.u64.wrap (last + b2)) + e2))) := (blk_cell HV.out 2).trans rfl
    have y3 : _ = some (Value.int .i64 d3) := (blk_cell HV.out 3).trans rfl
    have y4 : _ = some (Value.int .i64 0) := (blk_cell HV.out 4).trans rfl
    have y5 : _ = some (Value.int .i64 0) := (blk_cell HV.out 5).trans rfl
    have y6 : _ = some (Value.int .u32 0) := (blk_cell HV.out 6).trans rfl
    have y7 : _ = some (Value.int .u32 0) := (blk_cell HV.out 7).trans rfl
    have gf := blk_frozen HV.out 4
    have HV : Aside0 ((w19.setCell ⟨nb, 4, none⟩ (.int .i64 d4)).heap[nb]? = some (.cells #[.int .i64 a, .int .u64 (IntKind.u64.wrap (last + b2)), .int .u64 (IntKind.u64.wrap ((IntKind.u64.wrap (last + b2)) + e2)), .int .i64 d3, .int .i64 d4, .int .i64 0, .int .u32 0, .int .u32 0] 36 (0, 0))) := ⟨(blk_set HV.out 4 (.int .i64 d4)).trans rfl⟩
    have HT := Aside0.mk (HT.out.far hnb 4 (.int .i64 d4))
    go_wp2_with fail
    clear y0 y1 y2 y3 y4 y5 y6 y7 gf
    obtain ⟨d5, c_d5, hr_d5⟩ : ∃ x y, cs s c_d4 = (x, y) := ⟨_, _, rfl⟩
    have rg_d5 := cs_rng s c_d4
    rw [hr_d5] at rg_d5
    obtain ⟨d5_0, d5_1, d5_a⟩ := rg_d5
    simp only at d5_0 d5_1
    refine (small_any gb s c_d4 w _ HS.out HT.out.cur HT.out.below).mono ?_
    rw [hr_d5]
    rintro e w20 ⟨rfl, hI, hB, hK⟩
    have HT := Aside0.mk (HT.out.reads (by decide) hI hB hK)
    have HV := Aside0.mk ((hK.2 _ (blk_lt HV.out) hnb.2.2 (by simp)).trans HV.out)
    clear hI hB hK
    have y0 : _ = some (Value.int .i64 a) := (blk_cell HV.out 0).trans rfl
    have y1 : _ = some (Value.int .u64 (IntKind.u64.wrap (last + b2))) := (blk_cell HV.out 1).trans rfl
    have y2 : _ = some (Value.int .u64 (IntKind.u64.wrap ((IntKind.u64.wrap (last + b2)) + e2))) := (blk_cell HV.out 2).trans rfl
    have y3 : _ = some (Value.int .i64 d3) := (blk_cell HV.out 3).trans rfl
    have y4 : _ = some (Value.int .i64 d4) := (blk_cell HV.out 4).trans rfl
    have y5 : _ = some (Value.int .i64 0) := (blk_cell HV.out 5).trans rfl
    have y6 : _ = some (Value.int .u32 0) := (blk_cell HV.out 6).trans rfl
    have y7 : _ = some (Value.int .u32 0) := (blk_cell HV.out 7).trans rfl
    have gf := blk_frozen HV.out 5
    have HV : Aside0 ((w20.setCell ⟨nb, 5, none⟩ (.int .i64 d5)).heap[nb]? = some (.cells #[.int .i64 a, .int .u64 (IntKind.u64.wrap (last + b2)), .int .u64 (IntKind.u64.wrap ((IntKind.u64.wrap (last + b2)) + e2)), .int .i64 d3, .int .i64 d4, .int .i64 d5, .int .u32 0, .int .u32 0] 36 (0, 0))) := ⟨(blk_set HV.out 5 (.int .i64 d5)).trans rfl⟩
    have HT := Aside0.mk (HT.out.far hnb 5 (.int .i64 d5))
    go_wp2_with fail
    clear y0 y1 y2 y3 y4 y5 y6 y7 gf
    obtain ⟨d6, c_d6, hr_d6⟩ : ∃ x y, cf s c_d5 = (x, y) := ⟨_, _, rfl⟩
    have rg_d6 := cf_rng s c_d5
    rw [hr_d6] at rg_d6
    obtain ⟨d6_0, d6_1, d6_a⟩ := rg_d6
    simp only at d6_0 d6_1
    refine (fix_any gb s c_d5 w _ HS.out HT.out.cur HT.out.below).mono ?_
    rw [hr_d6]
    rintro e w21 ⟨rfl, hI, hB, hK⟩
    have HT := Aside0.mk (HT.out.reads (by decide) hI hB hK)
    have HV := Aside0.mk ((hK.2 _ (blk_lt HV.out) hnb.2.2 (by simp)).trans HV.out)
    clear hI hB hK
    have y0 : _ = some (Value.int .i64 a) := (blk_cell HV.out 0).trans rfl
    have y1 : _ = some (Value.int .u64 (IntKind.u64.wrap (last + b2))) := (blk_cell HV.out 1).trans rfl
    have y2 : _ = some (Value.int .u64 (IntKind.u64.wrap ((IntKind.u64.wrap (last + b2)) + e2))) := (blk_cell HV.out 2).trans rfl
    have y3 : _ = some (Value.int .i64 d3) := (blk_cell HV.out 3).trans rfl
    have y4 : _ = some (Value.int .i64 d4) := (blk_cell HV.out 4).trans rfl
    have y5 : _ = some (Value.int .i64 d5) := (blk_cell HV.out 5).trans rfl
    have y6 : _ = some (Value.int .u32 0) := (blk_cell HV.out 6).trans rfl
    have y7 : _ = some (Value.int .u32 0) := (blk_cell HV.out 7).trans rfl
    have gf := blk_frozen HV.out 6
    have HV : Aside0 ((w21.setCell ⟨nb, 6, none⟩ (.int .u32 d6)).heap[nb]? = some (.cells #[.int .i64 a, .int .u64 (IntKind.u64.wrap (last + b2)), .int .u64 (IntKind.u64.wrap ((IntKind.u64.wrap (last + b2)) + e2)), .int .i64 d3, .int .i64 d4, .int .i64 d5, .int .u32 d6, .int .u32 0] 36 (0, 0))) := ⟨(blk_set HV.out 6 (.int .u32 d6)).trans rfl⟩
    have HT := Aside0.mk (HT.out.far hnb 6 (.int .u32 d6))
    go_wp2_with fail
    clear y0 y1 y2 y3 y4 y5 y6 y7 gf
    obtain ⟨d7, c_d7, hr_d7⟩ : ∃ x y, cf s c_d6 = (x, y) := ⟨_, _, rfl⟩
    have rg_d7 := cf_rng s c_d6
    rw [hr_d7] at rg_d7
    obtain ⟨d7_0, d7_1, d7_a⟩ := rg_d7
    simp only at d7_0 d7_1
    refine (fix_any gb s c_d6 w _ HS.out HT.out.cur HT.out.below).mono ?_
    rw [hr_d7]
    rintro e w22 ⟨rfl, hI, hB, hK⟩
    have HT := Aside0.mk (HT.out.reads (by decide) hI hB hK)
    have HV := Aside0.mk ((hK.2 _ (blk_lt HV.out) hnb.2.2 (by simp)).trans HV.out)
    clear hI hB hK
    have y0 : _ = some (Value.int .i64 a) := (blk_cell HV.out 0).trans rfl
    have y1 : _ = some (Value.int .u64 (IntKind.u64.wrap (last + b2))) := (blk_cell HV.out 1).trans rfl
    have y2 : _ = some (Value.int .u64 (IntKind.u64.wrap ((IntKind.u64.wrap (last + b2)) + e2))) := (blk_cell HV.out 2).trans rfl
    have y3 : _ = some (Value.int .i64 d3) := (blk_cell HV.out 3).trans rfl
    have y4 : _ = some (Value.int .i64 d4) := (blk_cell HV.out 4).trans rfl
    have y5 : _ = some (Value.int .i64 d5) := (blk_cell HV.out 5).trans rfl
    have y6 : _ = some (Value.int .u32 d6) := (blk_cell HV.out 6).trans rfl
    have y7 : _ = some (Value.int .u32 0) := (blk_cell HV.out 7).trans rfl
    have gf := blk_frozen HV.out 7
    have HV : Aside0 ((w22.setCell ⟨nb, 7, none⟩ (.int .u32 d7)).heap[nb]? = some (.cells #[.int .i64 a, .int .u64 (IntKind.u64.wrap (last + b2)), .int .u64 (IntKind.u64.wrap ((IntKind.u64.wrap (last + b2)) + e2)), .int .i64 d3, .int .i64 d4, .int .i64 d5, .int .u32 d6, .int .u32 d7] 36 (0, 0))) := ⟨(blk_set HV.out 7 (.int .u32 d7)).trans rfl⟩
    have HT := Aside0.mk (HT.out.far hnb 7 (.int .u32 d7))
    go_upto_region 20 with (fail)
    clear y0 y1 y2 y3 y4 y5 y6 y7 gf
    have y0 : _ = some (Value.int .i64 a) := (blk_cell HV.out 0).trans rfl
    have y1 : _ = some (Value.int .u64 (IntKind.u64.wrap (last + b2))) := (blk_cell HV.out 1).trans rfl
    have y2 : _ = some (Value.int .u64 (IntKind.u64.wrap ((IntKind.u64.wrap (last + b2)) + e2))) := (blk_cell HV.out 2).trans rfl
    have y3 : _ = some (Value.int .i64 d3) := (blk_cell HV.out 3).trans rfl
    have y4 : _ = some (Value.int .i64 d4) := (blk_cell HV.out 4).trans rfl
    have y5 : _ = some (Value.int .i64 d5) := (blk_cell HV.out 5).trans rfl
    have y6 : _ = some (Value.int .u32 d6) := (blk_cell HV.out 6).trans rfl
    have y7 : _ = some (Value.int .u32 d7) := (blk_cell HV.out 7).trans rfl
    have HTo := HT
    have c0 : _ = some (Value.int .i64 gen) := (blk_cell HT.out.pair 0).trans rfl
    have c1 : _ = some (Value.int .i64 next) := (blk_cell HT.out.pair 1).trans rfl
    have c2 : _ = some (Value.int .u64 upto) := (blk_cell HT.out.pair 2).trans rfl
    have c3 : _ = some (u) := (blk_cell HT.out.pair 3).trans rfl
    have ff := blk_frozen HT.out.pair 3
    go_wp2_with ((with_reducible refine gate_builtin (b := .append) (xs := #[.tmp 77, .tmp 79]) rfl ?_); go_loud (at_builtin; refine Kd.R_append k36 (w0 := w) w.heap.size rfl (.tmp 77) (.tmp 79) 23 36 (.agg #[.int .i64 0, .int .u64 0, .int .u64 0, .int .i64 0, .int .i64 0, .int .i64 0, .int .u32 0, .int .u32 0]) 56 rfl Tryd.underlying23 info36 rfl (by decide) (by omega) u l (⟨a, IntKind.u64.wrap (last + b2), IntKind.u64.wrap (IntKind.u64.wrap (last + b2) + e2), d3, d4, d5, d6, d7⟩ : SN) [.int .i64 a, .int .u64 (IntKind.u64.wrap (last + b2)), .int .u64 (IntKind.u64.wrap ((IntKind.u64.wrap (last + b2)) + e2)), .int .i64 d3, .int .i64 d4, .int .i64 d5, .int .u32 d6, .int .u32 d7] (fun k => k ≠ nb) (fun _ => False) rfl (by first | (go_simp; done) | (go_simp; rfl)) ?aP (fun _ hk => hk.elim) ?aF ?aO ?aB ?aS ?aL ?_; (case aP => exact k36_mkM _ _ _ (⟨a, IntKind.u64.wrap (last + b2), IntKind.u64.wrap (IntKind.u64.wrap (last + b2) + e2), d3, d4, d5, d6, d7⟩ : SN)); (case aF => exact (fun k hk => Nat.ne_of_gt (Nat.lt_of_lt_of_le (blk_lt HV.out) hk))); (case aO => exact HT.out.own); (case aB => exact HT.out.below); (case aS => exact HT.out.below.size); (case aL => omega); clear c0 c1 c2 c3 y0 y1 y2 y3 y4 y5 y6 y7 ff; intro u' w99 ho hb hg hat; obtain ⟨A', c', rfl⟩ := Kd.R_slice ho; have HT := Aside0.mk (HT.out.more (by decide) (by decide) hb hg ho 3); have c3 : _ = some u := (blk_cell ((hg.block _ (blk_lt HTo.out.pair) (Kd.R_ne HTo.out.own HTo.out.pair (by decide))).trans HTo.out.pair) 3).trans rfl; have ff := blk_frozen ((hg.block _ (blk_lt HTo.out.pair) (Kd.R_ne HTo.out.own HTo.out.pair (by decide))).trans HTo.out.pair) 3; clear ho hb hg hat))
    have hlen : (l ++ [(⟨a, IntKind.u64.wrap (last + b2), IntKind.u64.wrap (IntKind.u64.wrap (last + b2) + e2), d3, d4, d5, d6, d7⟩ : SN)]).length = l.length + 1 := by rw [List.length_append, List.length_singleton]
    rw [hlen] at HT
    have hrec : lrN s last c = ((⟨a, IntKind.u64.wrap (last + b2), IntKind.u64.wrap (IntKind.u64.wrap (last + b2) + e2), d3, d4, d5, d6, d7⟩ : SN), c_d7) := by unfold lrN; simp only [hr_a, hr_b2, hr_e2, hr_d3, hr_d4, hr_d5, hr_d6, hr_d7]
    have hLR := HLR.out
    rw [hrec] at hLR
    have HLR := Aside0.mk hLR
    clear hLR hrec hr_a hr_b2 hr_e2 hr_d3 hr_d4 hr_d5 hr_d6 hr_d7
    have wb : 0 ≤ IntKind.u64.wrap (IntKind.u64.wrap (last + b2) + e2) ∧ IntKind.u64.wrap (IntKind.u64.wrap (last + b2) + e2) ≤ 18446744073709551615 := by rw [wu64_mod]; omega
    have hcc : c_d7.2 = false → 0 ≤ c_d7.1 ∧ ((l ++ [(⟨a, IntKind.u64.wrap (last + b2), IntKind.u64.wrap (IntKind.u64.wrap (last + b2) + e2), d3, d4, d5, d6, d7⟩ : SN)]).length : Int) ≤ c_d7.1 ∧ c_d7.1 ≤ s.size := by
      intro h
      obtain ⟨q_d7, p_d7, e_d7⟩ := d7_a h
      obtain ⟨q_d6, p_d6, e_d6⟩ := d6_a q_d7
      obtain ⟨q_d5, p_d5, e_d5⟩ := d5_a q_d6
      obtain ⟨q_d4, p_d4, e_d4⟩ := d4_a q_d5
      obtain ⟨q_d3, p_d3, e_d3⟩ := d3_a q_d4
      obtain ⟨q_e2, p_e2, e_e2⟩ := e2_a q_d3
      obtain ⟨q_b2, p_b2, e_b2⟩ := b2_a q_e2
      obtain ⟨q_a, p_a, e_a⟩ := a_a q_b2
      rw [hlen]
      omega
    clear a_a b2_a e2_a d3_a d4_a d5_a d6_a d7_a
    go_roundw
    case rel => exact ⟨l.length + 1, c_d7, IntKind.u64.wrap (IntKind.u64.wrap (last + b2) + e2), .slice A' (l.length + 1) c', l ++ [(⟨a, IntKind.u64.wrap (last + b2), IntKind.u64.wrap (IntKind.u64.wrap (last + b2) + e2), d3, d4, d5, d6, d7⟩ : SN)], by go_num, rfl, wb, by omega, hlen, hcc, by rw [hlen]; omega, ⟨HT.out.free (by decide)⟩, ⟨by rw [show N - (l.length + 1) = m by omega]; exact HLR.out⟩, ⟨fun y hy => by rcases List.mem_append.1 hy with h | h; exact HSu.out y h; rw [List.mem_singleton.1 h]; exact ⟨⟨d6_0, by show d6 < 4294967296; omega⟩, ⟨d7_0, by show d7 < 4294967296; omega⟩⟩⟩⟩
    case measure => simp [intOf]; omega
end Go.Proofs.YtejjidggnnhgjaaDoor.HImSm
/- EncodeManifest of layer 12, by the program. -/
set_option linter.unusedVariables false
set_option linter.unusedSimpArgs false
namespace Go.Proofs.YtejjidggnnhgjaaDoor.HImEm
open Go.RowKit Go.Proofs.YtejjidggnnhgjaaDoor.PImg Go.Proofs.YtejjidggnnhgjaaDoor.HBase Go.Proofs.YtejjidggnnhgjaaDoor.HBlob Go.Proofs.YtejjidggnnhgjaaDoor.HSum Go.Proofs.YtejjidggnnhgjaaDoor.HCk Go.Proofs.YtejjidggnnhgjaaDoor.HBuildW Go.Proofs.YtejjidggnnhgjaaDoor.HImgW Go.Proofs.YtejjidggnnhgjaaDoor.HImP Go.Proofs.YtejjidggnnhgjaaDoor.HImD Go.Proofs.YtejjidggnnhgjaaDoor.HImE Go.Proofs.YtejjidggnnhgjaaDoorW.PrintWords Go.Proofs.YtejjidggnnhgjaaDoorW.PrintLast Go.Proofs.YtejjidggnnhgjaaDoorW.PrintMore Go.Proofs.YtejjidggnnhgjaaDoor.HCore
set_option maxRecDepth 100000 in
set_option maxHeartbeats 1000000 in
theorem no  (gen next upto : Int) (A : Option Addr) (c : Nat) (ps : List SN) (w : World) (hC : Kd.C k36 w A ps.length ps) (hc : ps.length ≤ c) (hn : ps.length ≤ 9223372036854775807) (hr : ∀ x ∈ ps, (Lit.int .i64 x.f0).wf = true) (hgd : gdN gen next upto ps = false) :
    Calls Tryd.prog 8 #[.agg #[.int .i64 gen, .int .i64 next, .int .u64 upto, .slice A ps.length c]] w fun e w' => e = .returned (.tuple #[.string (⟨#[]⟩ : ByteArray), .int .i64 2]) ∧ Below w.heap.size w w' := by
  have HC := Aside0.mk hC
  have HR := Aside0.mk hr
  clear hC hr
  go_enter Tryd.func8, Tryd.ntmps8
  go_wp2_with fail
  refine (HImGm.good_any gen next upto A c ps _ (Kd.C_alloc HC.out _) hc hn HR.out).mono ?_
  rw [hgd]
  rintro e w1 ⟨rfl, hb1⟩
  have HB1 := Aside0.mk (below_then (below_alloc (Below.refl w.heap.size w) (.cells #[.int .i64 gen, .int .i64 next, .int .u64 upto, .slice A ps.length c] 25)) (by simp) hb1)
  clear hb1
  go_wp2
  go_ret2
  exact ⟨rfl, HB1.out⟩
set_option maxRecDepth 100000 in
set_option maxHeartbeats 8000000 in
theorem yes  (gen next upto : Int) (A : Option Addr) (c : Nat) (ps : List SN) (w : World) (hC : Kd.C k36 w A ps.length ps) (hc : ps.length ≤ c) (hn : ps.length ≤ 9223372036854775807) (hr : ∀ x ∈ ps, (Lit.int .i64 x.f0).wf = true) (hT : Tab w) (hs : ∀ x ∈ ps, Su x) (h0 : 0 ≤ upto) (hgd : gdN gen next upto ps = true) :
    Calls Tryd.prog 8 #[.agg #[.int .i64 gen, .int .i64 next, .int .u64 upto, .slice A ps.length c]] w fun e w' => e = .returned (.tuple #[.string (fileOf ltN (byN gen next upto ps)), .int .i64 0]) ∧ Below w.heap.size w w' := by
  obtain ⟨⟨g1, g2, g3, g4, g5, g7⟩, g6⟩ := gdN_parts hs hgd
  have HGd := Aside0.mk hgd
  have HR := Aside0.mk hr
  have HC := Aside0.mk hC
  have HT := Aside0.mk hT
  have HO := Aside0.mk (okN_nonneg ps 0 (Int.le_refl 0) g6)
  have HY : Aside0 (ltN.data.toList ++ byN gen next upto ps = (ltN.data.toList ++ ub gen ++ ub next ++ ub upto ++ ub (ps.length : Int)) ++ ens wrN nxN 0 ps) := ⟨by unfold byN; simp only [List.append_assoc]⟩
  have u0 : ltN.data.toList.length = 8 := rfl
  have u1 := ub_len (gen)
  have u2 := ub_len (next)
  have u3 := ub_len (upto)
  have u4 := ub_len ((ps.length : Int))
  clear hC hT hgd g6 hs hr
  go_enter Tryd.func8, Tryd.ntmps8
  go_wp2_with fail
  refine (HImGm.good_any gen next upto A c ps _ (Kd.C_alloc HC.out _) hc hn HR.out).mono ?_
  rw [HGd.out]
  rintro e w1 ⟨rfl, hb1⟩
  have HB1 := Aside0.mk (below_then (below_alloc (Below.refl w.heap.size w) (.cells #[.int .i64 gen, .int .i64 next, .int .u64 upto, .slice A ps.length c] 25)) (by simp) hb1)
  have HX1 := Aside0.mk ((hb1.block _ (blk_lt (heap_alloc_new _ _))).trans (heap_alloc_new w (.cells #[.int .i64 gen, .int .i64 next, .int .u64 upto, .slice A ps.length c] 25)))
  clear hb1
  go_wp2_with fail
  refine (new_es ltN w w1 (by decide) HB1.out [(w.heap.size, #[.int .i64 gen, .int .i64 next, .int .u64 upto, .slice A ps.length c], 25)] (fun t ht => by rcases List.mem_singleton.1 ht with rfl; exact ⟨HX1.out, show (25 : Nat) ≠ 5 by decide⟩)).mono ?_
  rintro e w2 ⟨b, rfl, he2⟩
  have HE := Aside0.mk he2
  clear he2 HB1 HX1
  obtain ⟨x0, x1, x2, x3⟩ : w2.cell? ⟨w.heap.size, 0, none⟩ = some (.int .i64 gen) ∧ w2.cell? ⟨w.heap.size, 1, none⟩ = some (.int .i64 next) ∧ w2.cell? ⟨w.heap.size, 2, none⟩ = some (.int .u64 upto) ∧ w2.cell? ⟨w.heap.size, 3, none⟩ = some (.slice A ps.length c) := ⟨(blk_cell HE.out.one 0).trans rfl, (blk_cell HE.out.one 1).trans rfl, (blk_cell HE.out.one 2).trans rfl, (blk_cell HE.out.one 3).trans rfl⟩
  go_wp2_with fail
  refine (number_es w _ b _ (gen) HE.out ⟨by omega, by omega⟩ (by first | omega | (simp only [List.length_append]; omega))).mono ?_
  rintro e w3 ⟨rfl, he⟩
  clear x0 x1 x2 x3 HE
  have HE := Aside0.mk he
  clear he
  obtain ⟨x0, x1, x2, x3⟩ : w3.cell? ⟨w.heap.size, 0, none⟩ = some (.int .i64 gen) ∧ w3.cell? ⟨w.heap.size, 1, none⟩ = some (.int .i64 next) ∧ w3.cell? ⟨w.heap.size, 2, none⟩ = some (.int .u64 upto) ∧ w3.cell? ⟨w.heap.size, 3, none⟩ = some (.slice A ps.length c) := ⟨(blk_cell HE.out.one 0).trans rfl, (blk_cell HE.out.one 1).trans rfl, (blk_cell HE.out.one 2).trans rfl, (blk_cell HE.out.one 3).trans rfl⟩
  go_wp2_with fail
  refine (number_es w _ b _ (next) HE.out ⟨by omega, by omega⟩ (by first | omega | (simp only [List.length_append]; omega))).mono ?_
  rintro e w4 ⟨rfl, he⟩
  clear x0 x1 x2 x3 HE
  have HE := Aside0.mk he
  clear he
  obtain ⟨x0, x1, x2, x3⟩ : w4.cell? ⟨w.heap.size, 0, none⟩ = some (.int .i64 gen) ∧ w4.cell? ⟨w.heap.size, 1, none⟩ = some (.int .i64 next) ∧ w4.cell? ⟨w.heap.size, 2, none⟩ = some (.int .u64 upto) ∧ w4.cell? ⟨w.heap.size, 3, none⟩ = some (.slice A ps.length c) := ⟨(blk_cell HE.out.one 0).trans rfl, (blk_cell HE.out.one 1).trans rfl, (blk_cell HE.out.one 2).trans rfl, (blk_cell HE.out.one 3).trans rfl⟩
  go_wp2_with fail
  refine (number_es w _ b _ (upto) HE.out ⟨by omega, by omega⟩ (by first | omega | (simp only [List.length_append]; omega))).mono ?_
  rintro e w5 ⟨rfl, he⟩
  clear x0 x1 x2 x3 HE
  have HE := Aside0.mk he
  clear he
  obtain ⟨x0, x1, x2, x3⟩ : w5.cell? ⟨w.heap.size, 0, none⟩ = some (.int .i64 gen) ∧ w5.cell? ⟨w.heap.size, 1, none⟩ = some (.int .i64 next) ∧ w5.cell? ⟨w.heap.size, 2, none⟩ = some (.int .u64 upto) ∧ w5.cell? ⟨w.heap.size, 3, none⟩ = some (.slice A ps.length c) := ⟨(blk_cell HE.out.one 0).trans rfl, (blk_cell HE.out.one 1).trans rfl, (blk_cell HE.out.one 2).trans rfl, (blk_cell HE.out.one 3).trans rfl⟩
  go_wp2_with fail
  refine (number_es w _ b _ ((ps.length : Int)) HE.out ⟨by omega, by omega⟩ (by first | omega | (simp only [List.length_append]; omega))).mono ?_
  rintro e w6 ⟨rfl, he⟩
  clear x0 x1 x2 x3 HE
  have HE := Aside0.mk he
  clear he
  obtain ⟨x0, x1, x2, x3⟩ : w6.cell? ⟨w.heap.size, 0, none⟩ = some (.int .i64 gen) ∧ w6.cell? ⟨w.heap.size, 1, none⟩ = some (.int .i64 next) ∧ w6.cell? ⟨w.heap.size, 2, none⟩ = some (.int .u64 upto) ∧ w6.cell? ⟨w.heap.size, 3, none⟩ = some (.slice A ps.length c) := ⟨(blk_cell HE.out.one 0).trans rfl, (blk_cell HE.out.one 1).trans rfl, (blk_cell HE.out.one 2).trans rfl, (blk_cell HE.out.one 3).trans rfl⟩
  obtain ⟨l0, hl0⟩ : ∃ l0, l0 = ltN.data.toList ++ ub gen ++ ub next ++ ub upto ++ ub (ps.length : Int) := ⟨_, rfl⟩
  have hl1 : l0.length ≤ 60 := by rw [hl0]; simp only [List.length_append]; omega
  rw [← hl0] at HE HY
  have HL := Aside0.mk hl1
  clear hl0 hl1 u0 u1 u2 u3 u4
  go_wp2
  clear x0 x1 x2 x3
  go_loopw [5, 35] (fun vl vi wr => ∃ k : Nat, k ≤ ps.length ∧ vi = .int .i64 (k : Int) ∧ vl = .int .u64 (lst nxN 0 (ps.take k)) ∧ Aside0 (Es w wr b (l0 ++ ens wrN nxN 0 (ps.take k)) [(w.heap.size, #[.int .i64 gen, .int .i64 next, .int .u64 upto, .slice A ps.length c], 25)])) (fun _ vi _ => ps.length - (intOf vi).toNat)
  case atStart => exact ⟨0, by omega, rfl, rfl, ⟨by rw [List.take_zero, show ens wrN nxN 0 [] = [] from rfl, List.append_nil]; exact HE.out⟩⟩
  case round =>
    clear HE
    obtain ⟨k, hk, rfl, rfl, HE⟩ := hrel
    by_cases hlt : k < ps.length
    · have HCr := Kd.C_below HC.out HE.out.bld.below
      obtain ⟨ad, eA, y0, y1, y2, y3, y4, y5, y6, y7⟩ := at_T36 HCr (k : Int) (by omega) (by omega)
      subst eA
      simp only [Int.toNat_natCast] at y0 y1 y2 y3 y4 y5 y6 y7
      obtain ⟨hokt, hok, hnx⟩ := oks_take HO.out k hlt
      have hlen := ens_len (wr := wrN) (fun st x h => wrN_len st x) _ _ hokt
      rw [List.length_take] at hlen
      have hget : rd_T36 ps (k : Int) = ps[k] := by unfold rd_T36; rw [Int.toNat_natCast, List.getD_eq_getElem?_getD, List.getElem?_eq_getElem hlt, Option.getD_some]
      have hstep : ens wrN nxN 0 (ps.take (k + 1)) = ens wrN nxN 0 (ps.take k) ++ wrN (lst nxN 0 (ps.take k)) ps[k] := by rw [List.take_succ_eq_append_getElem hlt, ens_snoc]
      have hl9 : (l0 ++ ens wrN nxN 0 (ps.take k)).length ≤ 60 + 710 * 65536 := by rw [List.length_append]; have := HL.out; omega
      rw [← hget] at hok hnx hstep
      have HN := Aside0.mk hnx
      generalize rd_T36 ps (k : Int) = x at y0 y1 y2 y3 y4 y5 y6 y7 hok hstep HN
      have HP := Aside0.mk hstep
      generalize ens wrN nxN 0 (ps.take k) = pre at HE hl9 HP
      generalize lst nxN 0 (ps.take k) = st at hok HP ⊢
      rw [List.length_append] at hl9
      clear hnx hstep hlen hokt hget HCr
      obtain ⟨hst, ⟨o0, o1⟩, o2, o3, o4, ⟨o5, o6⟩, ⟨o7, o8⟩, ⟨o9, o10⟩, ⟨⟨o11, o12⟩, ⟨o13, o14⟩⟩⟩ := hok
      have HE := Aside0.mk (HE.out.add #[.int .i64 x.f0, .int .u64 x.f1, .int .u64 x.f2, .int .i64 x.f3, .int .i64 x.f4, .int .i64 x.f5, .int .u32 x.f6, .int .u32 x.f7] 36 (by decide))
      --LOOP0
      go_wp2_with fail
      clear y0 y1 y2 y3 y4 y5 y6 y7
      generalize wr.heap.size = vb at HE ⊢
      have uu := ub_len (x.f0)
      refine (number_es w _ b _ (x.f0) HE.out ⟨by omega, by omega⟩ (by first | omega | (simp only [List.length_append]; omega))).mono ?_
      rintro e v0 ⟨rfl, he⟩
      clear HE
      have HE := Aside0.mk he
      clear he
      generalize hub0 : ub (x.f0) = b0 at HE uu
      have HU0 := Aside0.mk hub0
      clear hub0
      obtain ⟨y0, y1, y2, y3, y4, y5, y6, y7⟩ : v0.cell? ⟨vb, 0, none⟩ = some (.int .i64 x.f0) ∧ v0.cell? ⟨vb, 1, none⟩ = some (.int .u64 x.f1) ∧ v0.cell? ⟨vb, 2, none⟩ = some (.int .u64 x.f2) ∧ v0.cell? ⟨vb, 3, none⟩ = some (.int .i64 x.f3) ∧ v0.cell? ⟨vb, 4, none⟩ = some (.int .i64 x.f4) ∧ v0.cell? ⟨vb, 5, none⟩ = some (.int .i64 x.f5) ∧ v0.cell? ⟨vb, 6, none⟩ = some (.int .u32 x.f6) ∧ v0.cell? ⟨vb, 7, none⟩ = some (.int .u32 x.f7) := ⟨(blk_cell HE.out.one 0).trans rfl, (blk_cell HE.out.one 1).trans rfl, (blk_cell HE.out.one 2).trans rfl, (blk_cell HE.out.one 3).trans rfl, (blk_cell HE.out.one 4).trans rfl, (blk_cell HE.out.one 5).trans rfl, (blk_cell HE.out.one 6).trans rfl, (blk_cell HE.out.one 7).trans rfl⟩
      --REGL0
      go_wp2_with fail
      have uu := ub_len (x.f1 - st)
      refine (number_es w _ b _ (x.f1 - st) HE.out ⟨by omega, by omega⟩ (by first | omega | (simp only [List.length_append]; omega))).mono ?_
      rintro e v1 ⟨rfl, he⟩
      clear y0 y1 y2 y3 y4 y5 y6 y7
      clear HE
      have HE := Aside0.mk he
      clear he
      generalize hub1 : ub (x.f1 - st) = b1 at HE uu
      have HU1 := Aside0.mk hub1
      clear hub1
      obtain ⟨y0, y1, y2, y3, y4, y5, y6, y7⟩ : v1.cell? ⟨vb, 0, none⟩ = some (.int .i64 x.f0) ∧ v1.cell? ⟨vb, 1, none⟩ = some (.int .u64 x.f1) ∧ v1.cell? ⟨vb, 2, none⟩ = some (.int .u64 x.f2) ∧ v1.cell? ⟨vb, 3, none⟩ = some (.int .i64 x.f3) ∧ v1.cell? ⟨vb, 4, none⟩ = some (.int .i64 x.f4) ∧ v1.cell? ⟨vb, 5, none⟩ = some (.int .i64 x.f5) ∧ v1.cell? ⟨vb, 6, none⟩ = some (.int .u32 x.f6) ∧ v1.cell? ⟨vb, 7, none⟩ = some (.int .u32 x.f7) := ⟨(blk_cell HE.out.one 0).trans rfl, (blk_cell HE.out.one 1).trans rfl, (blk_cell HE.out.one 2).trans rfl, (blk_cell HE.out.one 3).trans rfl, (blk_cell HE.out.one 4).trans rfl, (blk_cell HE.out.one 5).trans rfl, (blk_cell HE.out.one 6).trans rfl, (blk_cell HE.out.one 7).trans rfl⟩
      --REGL1
      go_wp2_with fail
      have uu := ub_len (x.f2 - x.f1)
      refine (number_es w _ b _ (x.f2 - x.f1) HE.out ⟨by omega, by omega⟩ (by first | omega | (simp only [List.length_append]; omega))).mono ?_
      rintro e v2 ⟨rfl, he⟩
      clear y0 y1 y2 y3 y4 y5 y6 y7
      clear HE
      have HE := Aside0.mk he
      clear he
      generalize hub2 : ub (x.f2 - x.f1) = b2 at HE uu
      have HU2 := Aside0.mk hub2
      clear hub2
      obtain ⟨y0, y1, y2, y3, y4, y5, y6, y7⟩ : v2.cell? ⟨vb, 0, none⟩ = some (.int .i64 x.f0) ∧ v2.cell? ⟨vb, 1, none⟩ = some (.int .u64 x.f1) ∧ v2.cell? ⟨vb, 2, none⟩ = some (.int .u64 x.f2) ∧ v2.cell? ⟨vb, 3, none⟩ = some (.int .i64 x.f3) ∧ v2.cell? ⟨vb, 4, none⟩ = some (.int .i64 x.f4) ∧ v2.cell? ⟨vb, 5, none⟩ = some (.int .i64 x.f5) ∧ v2.cell? ⟨vb, 6, none⟩ = some (.int .u32 x.f6) ∧ v2.cell? ⟨vb, 7, none⟩ = some (.int .u32 x.f7) := ⟨(blk_cell HE.out.one 0).trans rfl, (blk_cell HE.out.one 1).trans rfl, (blk_cell HE.out.one 2).trans rfl, (blk_cell HE.out.one 3).trans rfl, (blk_cell HE.out.one 4).trans rfl, (blk_cell HE.out.one 5).trans rfl, (blk_cell HE.out.one 6).trans rfl, (blk_cell HE.out.one 7).trans rfl⟩
      --REGL2
      go_wp2_with fail
      have uu := ub_len (x.f3)
      refine (number_es w _ b _ (x.f3) HE.out ⟨by omega, by omega⟩ (by first | omega | (simp only [List.length_append]; omega))).mono ?_
      rintro e v3 ⟨rfl, he⟩
      clear y0 y1 y2 y3 y4 y5 y6 y7
      clear HE
      have HE := Aside0.mk he
      clear he
      generalize hub3 : ub (x.f3) = b3 at HE uu
      have HU3 := Aside0.mk hub3
      clear hub3
      obtain ⟨y0, y1, y2, y3, y4, y5, y6, y7⟩ : v3.cell? ⟨vb, 0, none⟩ = some (.int .i64 x.f0) ∧ v3.cell? ⟨vb, 1, none⟩ = some (.int .u64 x.f1) ∧ v3.cell? ⟨vb, 2, none⟩ = some (.int .u64 x.f2) ∧ v3.cell? ⟨vb, 3, none⟩ = some (.int .i64 x.f3) ∧ v3.cell? ⟨vb, 4, none⟩ = some (.int .i64 x.f4) ∧ v3.cell? ⟨vb, 5, none⟩ = some (.int .i64 x.f5) ∧ v3.cell? ⟨vb, 6, none⟩ = some (.int .u32 x.f6) ∧ v3.cell? ⟨vb, 7, none⟩ = some (.int .u32 x.f7) := ⟨(blk_cell HE.out.one 0).trans rfl, (blk_cell HE.out.one 1).trans rfl, (blk_cell HE.out.one 2).trans rfl, (blk_cell HE.out.one 3).trans rfl, (blk_cell HE.out.one 4).trans rfl, (blk_cell HE.out.one 5).trans rfl, (blk_cell HE.out.one 6).trans rfl, (blk_cell HE.out.one 7).trans rfl⟩
      --REGL3
      go_wp2_with fail
      have uu := ub_len (x.f4)
      refine (number_es w _ b _ (x.f4) HE.out ⟨by omega, by omega⟩ (by first | omega | (simp only [List.length_append]; omega))).mono ?_
      rintro e v4 ⟨rfl, he⟩
      clear y0 y1 y2 y3 y4 y5 y6 y7
      clear HE
      have HE := Aside0.mk he
      clear he
      generalize hub4 : ub (x.f4) = b4 at HE uu
      have HU4 := Aside0.mk hub4
      clear hub4
      obtain ⟨y0, y1, y2, y3, y4, y5, y6, y7⟩ : v4.cell? ⟨vb, 0, none⟩ = some (.int .i64 x.f0) ∧ v4.cell? ⟨vb, 1, none⟩ = some (.int .u64 x.f1) ∧ v4.cell? ⟨vb, 2, none⟩ = some (.int .u64 x.f2) ∧ v4.cell? ⟨vb, 3, none⟩ = some (.int .i64 x.f3) ∧ v4.cell? ⟨vb, 4, none⟩ = some (.int .i64 x.f4) ∧ v4.cell? ⟨vb, 5, none⟩ = some (.int .i64 x.f5) ∧ v4.cell? ⟨vb, 6, none⟩ = some (.int .u32 x.f6) ∧ v4.cell? ⟨vb, 7, none⟩ = some (.int .u32 x.f7) := ⟨(blk_cell HE.out.one 0).trans rfl, (blk_cell HE.out.one 1).trans rfl, (blk_cell HE.out.one 2).trans rfl, (blk_cell HE.out.one 3).trans rfl, (blk_cell HE.out.one 4).trans rfl, (blk_cell HE.out.one 5).trans rfl, (blk_cell HE.out.one 6).trans rfl, (blk_cell HE.out.one 7).trans rfl⟩
      --REGL4
      go_wp2_with fail
      have uu := ub_len (x.f5)
      refine (number_es w _ b _ (x.f5) HE.out ⟨by omega, by omega⟩ (by first | omega | (simp only [List.length_append]; omega))).mono ?_
      rintro e v5 ⟨rfl, he⟩
      clear y0 y1 y2 y3 y4 y5 y6 y7
      clear HE
      have HE := Aside0.mk he
      clear he
      generalize hub5 : ub (x.f5) = b5 at HE uu
      have HU5 := Aside0.mk hub5
      clear hub5
      obtain ⟨y0, y1, y2, y3, y4, y5, y6, y7⟩ : v5.cell? ⟨vb, 0, none⟩ = some (.int .i64 x.f0) ∧ v5.cell? ⟨vb, 1, none⟩ = some (.int .u64 x.f1) ∧ v5.cell? ⟨vb, 2, none⟩ = some (.int .u64 x.f2) ∧ v5.cell? ⟨vb, 3, none⟩ = some (.int .i64 x.f3) ∧ v5.cell? ⟨vb, 4, none⟩ = some (.int .i64 x.f4) ∧ v5.cell? ⟨vb, 5, none⟩ = some (.int .i64 x.f5) ∧ v5.cell? ⟨vb, 6, none⟩ = some (.int .u32 x.f6) ∧ v5.cell? ⟨vb, 7, none⟩ = some (.int .u32 x.f7) := ⟨(blk_cell HE.out.one 0).trans rfl, (blk_cell HE.out.one 1).trans rfl, (blk_cell HE.out.one 2).trans rfl, (blk_cell HE.out.one 3).trans rfl, (blk_cell HE.out.one 4).trans rfl, (blk_cell HE.out.one 5).trans rfl, (blk_cell HE.out.one 6).trans rfl, (blk_cell HE.out.one 7).trans rfl⟩
      --REGL5
      have uu := fb_len (x.f6)
      go_upto_region 18 with (fail)
      have HSz : Aside0 ((l0 ++ pre ++ b0 ++ b1 ++ b2 ++ b3 ++ b4 ++ b5).length ≤ 100000000000000) := ⟨by simp only [List.length_append]; omega⟩
      go_cut [] (fun wx => Aside0 (Es w wx b ((l0 ++ pre ++ b0 ++ b1 ++ b2 ++ b3 ++ b4 ++ b5) ++ (fxb 4 (x.f6)).data.toList) [(vb, #[.int .i64 x.f0, .int .u64 x.f1, .int .u64 x.f2, .int .i64 x.f3, .int .i64 x.f4, .int .i64 x.f5, .int .u32 x.f6, .int .u32 x.f7], 36), (w.heap.size, #[.int .i64 gen, .int .i64 next, .int .u64 upto, .slice (some ad) ps.length c], 25)]))
      case first =>
        go_region_with (first | (go_at_call 32; refine (bits_Fixed32.calls _ _ _ (show bits_Fixed32.f (x.f6) = some (fxb 4 (x.f6)) from rfl)).mono ?_; rintro e wf ⟨rfl, hbf⟩; have HE1 := Aside0.mk (HE.out.drew.grown hbf); clear hbf) | (go_at_call 31; refine (string_es w _ b _ (fxb 4 (x.f6)) HE1.out (by rw [fxb_len]; omega) HSz.out).mono ?_; rintro e wg ⟨rfl, he⟩; have HE2 := Aside0.mk he; clear he))
        all_goals (go_wp2_with fail; go_meet; case rel => exact HE2)
      obtain ⟨v6, rfl⟩ : ∃ x, x = wc := ⟨_, rfl⟩
      have he := hcut.out
      clear hcut
      clear y0 y1 y2 y3 y4 y5 y6 y7
      clear HE
      have HE := Aside0.mk he
      clear he
      rw [show (fxb 4 (x.f6)).data.toList = fb (x.f6) from rfl] at HE
      generalize hub6 : fb (x.f6) = b6 at HE uu
      have HU6 := Aside0.mk hub6
      clear hub6
      obtain ⟨y0, y1, y2, y3, y4, y5, y6, y7⟩ : v6.cell? ⟨vb, 0, none⟩ = some (.int .i64 x.f0) ∧ v6.cell? ⟨vb, 1, none⟩ = some (.int .u64 x.f1) ∧ v6.cell? ⟨vb, 2, none⟩ = some (.int .u64 x.f2) ∧ v6.cell? ⟨vb, 3, none⟩ = some (.int .i64 x.f3) ∧ v6.cell? ⟨vb, 4, none⟩ = some (.int .i64 x.f4) ∧ v6.cell? ⟨vb, 5, none⟩ = some (.int .i64 x.f5) ∧ v6.cell? ⟨vb, 6, none⟩ = some (.int .u32 x.f6) ∧ v6.cell? ⟨vb, 7, none⟩ = some (.int .u32 x.f7) := ⟨(blk_cell HE.out.one 0).trans rfl, (blk_cell HE.out.one 1).trans rfl, (blk_cell HE.out.one 2).trans rfl, (blk_cell HE.out.one 3).trans rfl, (blk_cell HE.out.one 4).trans rfl, (blk_cell HE.out.one 5).trans rfl, (blk_cell HE.out.one 6).trans rfl, (blk_cell HE.out.one 7).trans rfl⟩
      --REGL6
      have uu := fb_len (x.f7)
      go_upto_region 19 with (fail)
      have HSz : Aside0 ((l0 ++ pre ++ b0 ++ b1 ++ b2 ++ b3 ++ b4 ++ b5 ++ b6).length ≤ 100000000000000) := ⟨by simp only [List.length_append]; omega⟩
      go_cut [] (fun wx => Aside0 (Es w wx b ((l0 ++ pre ++ b0 ++ b1 ++ b2 ++ b3 ++ b4 ++ b5 ++ b6) ++ (fxb 4 (x.f7)).data.toList) [(vb, #[.int .i64 x.f0, .int .u64 x.f1, .int .u64 x.f2, .int .i64 x.f3, .int .i64 x.f4, .int .i64 x.f5, .int .u32 x.f6, .int .u32 x.f7], 36), (w.heap.size, #[.int .i64 gen, .int .i64 next, .int .u64 upto, .slice (some ad) ps.length c], 25)]))
      case first =>
        go_region_with (first | (go_at_call 32; refine (bits_Fixed32.calls _ _ _ (show bits_Fixed32.f (x.f7) = some (fxb 4 (x.f7)) from rfl)).mono ?_; rintro e wf ⟨rfl, hbf⟩; have HE1 := Aside0.mk (HE.out.drew.grown hbf); clear hbf) | (go_at_call 31; refine (string_es w _ b _ (fxb 4 (x.f7)) HE1.out (by rw [fxb_len]; omega) HSz.out).mono ?_; rintro e wg ⟨rfl, he⟩; have HE2 := Aside0.mk he; clear he))
        all_goals (go_wp2_with fail; go_meet; case rel => exact HE2)
      obtain ⟨v7, rfl⟩ : ∃ x, x = wc := ⟨_, rfl⟩
      have he := hcut.out
      clear hcut
      clear y0 y1 y2 y3 y4 y5 y6 y7
      clear HE
      have HE := Aside0.mk he
      clear he
      rw [show (fxb 4 (x.f7)).data.toList = fb (x.f7) from rfl] at HE
      generalize hub7 : fb (x.f7) = b7 at HE uu
      have HU7 := Aside0.mk hub7
      clear hub7
      obtain ⟨y0, y1, y2, y3, y4, y5, y6, y7⟩ : v7.cell? ⟨vb, 0, none⟩ = some (.int .i64 x.f0) ∧ v7.cell? ⟨vb, 1, none⟩ = some (.int .u64 x.f1) ∧ v7.cell? ⟨vb, 2, none⟩ = some (.int .u64 x.f2) ∧ v7.cell? ⟨vb, 3, none⟩ = some (.int .i64 x.f3) ∧ v7.cell? ⟨vb, 4, none⟩ = some (.int .i64 x.f4) ∧ v7.cell? ⟨vb, 5, none⟩ = some (.int .i64 x.f5) ∧ v7.cell? ⟨vb, 6, none⟩ = some (.int .u32 x.f6) ∧ v7.cell? ⟨vb, 7, none⟩ = some (.int .u32 x.f7) := ⟨(blk_cell HE.out.one 0).trans rfl, (blk_cell HE.out.one 1).trans rfl, (blk_cell HE.out.one 2).trans rfl, (blk_cell HE.out.one 3).trans rfl, (blk_cell HE.out.one 4).trans rfl, (blk_cell HE.out.one 5).trans rfl, (blk_cell HE.out.one 6).trans rfl, (blk_cell HE.out.one 7).trans rfl⟩
      go_wp2
      go_roundw
      case rel => exact ⟨k + 1, by omega, by go_num, by rw [HN.out]; rfl, ⟨by rw [HP.out, ← List.append_assoc]; unfold wrN; rw [HU0.out, HU1.out, HU2.out, HU3.out, HU4.out, HU5.out, HU6.out, HU7.out]; simp only [List.append_assoc]; have h := HE.out; simp only [List.append_assoc] at h; exact h.less (fun t ht => List.mem_cons_of_mem _ ht)⟩⟩
      case measure => simp [intOf]; omega
    · obtain rfl : k = ps.length := by omega
      rw [List.take_length] at HE ⊢
      have hlen := ens_len (wr := wrN) (fun st x h => wrN_len st x) _ _ HO.out
      rw [← HY.out] at HE
      have hl8 : (ltN.data.toList ++ byN gen next upto ps).length ≤ 60 + 710 * 65536 := by rw [HY.out, List.length_append]; have := HL.out; omega
      have hl7 : ltN.data.toList ++ byN gen next upto ps ≠ [] := fun h => by have := congrArg List.length h; rw [List.length_append] at this; simp only [show ltN.data.toList.length = 8 from rfl, List.length_nil] at this; omega
      have HN7 := Aside0.mk hl7
      have HN8 : Aside0 ((ltN.data.toList ++ byN gen next upto ps).length ≤ 140737488355328) := ⟨by omega⟩
      clear hlen hl8 hl7
      go_wp2_with fail
      refine (sealed_any w _ b _ HE.out.bld HN7.out HN8.out HT.out).mono ?_
      rintro e w9 ⟨rfl, hb9⟩
      have HB9 := Aside0.mk hb9
      clear hb9
      go_wp2
      go_ret2
      exact ⟨rfl, HB9.out⟩
end Go.Proofs.YtejjidggnnhgjaaDoor.HImEm
/- What the statements of layer 12 call, each by one contract: twins, comparisons, the writers and readers of both sides. -/
set_option linter.unusedVariables false
set_option linter.unusedSimpArgs false
namespace Go.Proofs.YtejjidggnnhgjaaDoor.HImT
open Go.RowKit Go.Proofs.YtejjidggnnhgjaaDoor.PImg Go.Proofs.YtejjidggnnhgjaaDoor.HBase Go.Proofs.YtejjidggnnhgjaaDoor.HBlob Go.Proofs.YtejjidggnnhgjaaDoor.HSum Go.Proofs.YtejjidggnnhgjaaDoor.HCk Go.Proofs.YtejjidggnnhgjaaDoor.HImgW Go.Proofs.YtejjidggnnhgjaaDoor.HImgR Go.Proofs.YtejjidggnnhgjaaDoor.HImgO Go.Proofs.YtejjidggnnhgjaaDoor.HImP Go.Proofs.YtejjidggnnhgjaaDoor.HImD Go.Proofs.YtejjidggnnhgjaaDoor.HImE Go.Proofs.YtejjidggnnhgjaaDoor.HImF Go.Proofs.YtejjidggnnhgjaaDoor.HImK Go.Proofs.YtejjidggnnhgjaaDoor.HImKe Go.Proofs.YtejjidggnnhgjaaDoor.HImS Go.Proofs.YtejjidggnnhgjaaDoor.HImS2 Go.Proofs.YtejjidggnnhgjaaDoorW.PrintWords Go.Proofs.YtejjidggnnhgjaaDoorW.PrintLast Go.Proofs.YtejjidggnnhgjaaDoorW.PrintMore Go.Proofs.YtejjidggnnhgjaaDoor.HCore
theorem sameN_l (a b c a' b' c' : Int) (ds : List SN) (hn : ds.length < 2513169434916) : ∀ (d i k : Nat), i + d = ds.length → d < k → stratalaw12_sameManifest.l0 k (i : Int) a b c ds a' b' c' ds = some true := by
  intro d
  induction d with
  | zero =>
    intro i k hi hk
    obtain ⟨k, rfl⟩ : ∃ k', k = k' + 1 := ⟨k - 1, by omega⟩
    rw [stratalaw12_sameManifest.l0, if_neg (by omega)]
  | succ d ih =>
    intro i k hi hk
    obtain ⟨k, rfl⟩ : ∃ k', k = k' + 1 := ⟨k - 1, by omega⟩
    rw [stratalaw12_sameManifest.l0, if_pos (by omega), if_pos (by omega), if_pos (by omega), if_neg (by simp), wstep i (by omega)]
    exact ih (i + 1) k (by omega) (by omega)
theorem sameN_f (a b c : Int) (ds : List SN) (hn : ds.length < 2513169434916) : stratalaw12_sameManifest.f (ds.length + 2) a b c ds a b c ds = some true := by
  unfold stratalaw12_sameManifest.f
  rw [if_pos rfl, if_pos rfl, if_pos rfl, bne_self_eq_false, stratalaw12_sameManifest.j0, if_neg (by decide)]
  exact sameN_l a b c a b c ds hn ds.length 0 _ (by omega) (by omega)
theorem num_any (a : Int) (w : World) : Calls Tryd.prog 10 #[.int .i64 a] w fun e w' => e = .returned (.int .i64 a) ∧ w = w' := by
  go_enter Tryd.func10, Tryd.ntmps10
  go_wp2
  go_ret
  exact ⟨rfl, rfl⟩
theorem same_man (id lo hi : Int) (A : Option Addr) (n c : Nat) (ds : List SN) (B : Option Addr) (m d : Nat) (w : World)
    (hC : Kd.C k36 w A n ds) (hc : n ≤ c) (gC : Kd.C k36 w B m ds) (gc : m ≤ d) (hn : ds.length < 2513169434916) :
    Calls Tryd.prog 11 #[.agg #[.int .i64 id, .int .i64 lo, .int .u64 hi, .slice A n c], .agg #[.int .i64 id, .int .i64 lo, .int .u64 hi, .slice B m d]] w fun e w' => e = .returned (.bool true) ∧ Below w.heap.size w w' := by
  obtain rfl : n = ds.length := hC.1.symm
  obtain rfl : m = ds.length := gC.1.symm
  exact stratalaw12_sameManifest.calls _ id lo hi A c ds id lo hi B d ds true w hC hc gC gc (sameN_f id lo hi ds hn)
theorem twin_man (id lo hi : Int) (A : Option Addr) (n c : Nat) (ds : List SN) (w : World) (hC : Kd.C k36 w A n ds) (hc : n ≤ c) (hn : ds.length < 2513169434916) :
    Calls Tryd.prog 7 #[.agg #[.int .i64 id, .int .i64 lo, .int .u64 hi, .slice A n c]] w fun e w' => ∃ (B : Option Addr) (d : Nat), e = .returned (.agg #[.int .i64 id, .int .i64 lo, .int .u64 hi, .slice B n d]) ∧ Kd.R k36 36 w' w.heap.size (fun _ => True) (.slice B n d) ds ∧ Below w.heap.size w w' := by
  obtain rfl : n = ds.length := hC.1.symm
  refine (stratalaw12_twinManifest.calls id lo hi A c ds id lo hi ds w hC hc ?_).mono ?_
  · unfold stratalaw12_twinManifest.f
    simp only [Option.bind_some, List.length_nil, List.nil_append]
    rw [if_pos (by omega)]
  · rintro e w' ⟨v3, rfl, h3, hb⟩
    obtain ⟨B, d, rfl⟩ := Kd.R_slice h3
    exact ⟨B, d, rfl, h3, hb⟩
def outN (gen next upto : Int) (ps : List SN) : ByteArray × Int := if gdN gen next upto ps = true then (fileOf ltN (byN gen next upto ps), 0) else ((⟨#[]⟩ : ByteArray), 2)
section
variable (gen next upto : Int) (A : Option Addr) (n c : Nat) (ps : List SN) (w : World)
theorem encN_p (hC : Kd.C k36 w A n ps) (hc : n ≤ c) (hr : ∀ x ∈ ps, (Lit.int .i64 x.f0).wf = true) (hT : Tab w) (hs : ∀ x ∈ ps, Su x) (h0 : 0 ≤ upto) (hn : ps.length < 2513169434916) :
    Calls Tryd.prog 8 #[.agg #[.int .i64 gen, .int .i64 next, .int .u64 upto, .slice A n c]] w fun e w' => e = .returned (.tuple #[.string (outN gen next upto ps).1, .int .i64 (outN gen next upto ps).2]) ∧ Below w.heap.size w w' := by
  obtain rfl : n = ps.length := hC.1.symm
  unfold outN
  by_cases h : gdN gen next upto ps = true
  · rw [if_pos h]
    exact HImEm.yes gen next upto A c ps w hC hc (by omega) hr hT hs h0 h
  · rw [if_neg h]
    exact HImEm.no gen next upto A c ps w hC hc (by omega) hr (by simpa using h)
theorem encN_d (hC : Kd.C k36 w A n ps) (hc : n ≤ c) (hs : ∀ x ∈ ps, Su x) (h0 : 0 ≤ upto) :
    Calls Tryd.prog 9 #[.agg #[.int .i64 gen, .int .i64 next, .int .u64 upto, .slice A n c]] w fun e w' => e = .returned (.tuple #[.string (outN gen next upto ps).1, .int .i64 (outN gen next upto ps).2]) ∧ Below w.heap.size w w' := by
  obtain rfl : n = ps.length := hC.1.symm
  exact strataref12_EncodeManifest.calls _ gen next upto A c ps (outN gen next upto ps).1 (outN gen next upto ps).2 w hC hc (encN_f gen next upto ps h0 hs _ (Nat.le_refl _))
end
/-! ### the readers -/
section
variable {b : ByteArray} {w : World}
theorem decN_p {gen next upto cd : Int} {ps : List SN} (hb : b.size ≤ 140737488355328) (hT : Tab w) (hv : HImDm.val b = (gen, next, upto, ps)) (hc : HImDm.code b = cd) :
    Calls Tryd.prog 12 #[.string b] w fun e w' => ∃ (A : Option Addr) (n c : Nat), e = .returned (.tuple #[.agg #[.int .i64 gen, .int .i64 next, .int .u64 upto, .slice A n c], .int .i64 cd]) ∧ Kd.R k36 36 w' w.heap.size (fun _ => True) (.slice A n c) ps ∧ Below w.heap.size w w' := by
  refine (HImDm.dec_any b w hb hT).mono ?_
  rintro e w' ⟨u, rfl, hR, hB⟩
  obtain ⟨A, c, rfl⟩ := Kd.R_slice hR
  rw [hv] at hR ⊢
  rw [hc]
  exact ⟨A, _, c, rfl, hR, hB⟩
theorem decN_d {gen next upto cd : Int} {ps : List SN} (hb : b.size ≤ 1048576) (hv : HImDm.val b = (gen, next, upto, ps)) (hc : HImDm.code b = cd) :
    Calls Tryd.prog 13 #[.string b] w fun e w' => ∃ (A : Option Addr) (n c : Nat), e = .returned (.tuple #[.agg #[.int .i64 gen, .int .i64 next, .int .u64 upto, .slice A n c], .int .i64 cd]) ∧ Kd.R k36 36 w' w.heap.size (fun _ => True) (.slice A n c) ps ∧ Below w.heap.size w w' := by
  refine (HImSm.dec_any b w hb).mono ?_
  rintro e w' ⟨u, rfl, hR, hB⟩
  obtain ⟨A, c, rfl⟩ := Kd.R_slice hR
  rw [hv] at hR ⊢
  rw [hc]
  exact ⟨A, _, c, rfl, hR, hB⟩
end
theorem vN_len (b : ByteArray) : (HImDm.val b).2.2.2.length ≤ 65536 := by
  by_cases ho : opn b ltN = 0
  · cases hd : dcN (ins b) with
    | none => rw [(HImDm.none_val ho hd).1]; exact Nat.zero_le _
    | some x =>
      by_cases hx : x.2 = ((ins b).size : Int)
      · rw [(HImDm.some_val ho hd hx).1]
        obtain ⟨⟨g, n, u, ps⟩, q⟩ := x
        have h := dcN_drop hd
        have := (gdN_parts h.2.2.1 h.1).1.2.2.2.2.2
        show ps.length ≤ 65536
        omega
      · rw [(HImDm.short_val ho hd hx).1]; exact Nat.zero_le _
  · rw [(HImDm.out_val ho).1]; exact Nat.zero_le _
theorem rC {X : Type} {d : Kd X} {t : TypeId} {W : World} {base n c : Nat} {ok : Nat → Prop} {A : Option Addr} {xs : List X} (h : Kd.R d t W base ok (.slice A n c) xs) : Kd.C d W A n xs := by
  obtain ⟨rfl, _, h⟩ := Kd.R_reads' h
  exact h
theorem rN {X : Type} {d : Kd X} {t : TypeId} {W : World} {base n c : Nat} {ok : Nat → Prop} {A : Option Addr} {xs : List X} (h : Kd.R d t W base ok (.slice A n c) xs) : n ≤ c := (Kd.R_reads' h).2.1
end Go.Proofs.YtejjidggnnhgjaaDoor.HImT
/- The kinds of the parameters of layer 12's statements, whole. -/
set_option linter.unusedVariables false
namespace Go.Proofs.YtejjidggnnhgjaaDoor.HKinds
open Go.RowKit Go.Proofs.YtejjidggnnhgjaaDoor.PImg Go.Proofs.YtejjidggnnhgjaaDoorW.PrintWords Go.Proofs.YtejjidggnnhgjaaDoorW.PrintLast
abbrev S36 := PImg.S36
structure S25 where
  f0 : Int
  f1 : Int
  f2 : Int
  f3 : List S36
def k25 : Kd S25 := Kd.iso (Kd.pair (Kd.int .i64) (Kd.pair (Kd.int .i64) (Kd.pair (Kd.int .u64) (Kd.slice 36 PImg.k36)))) (fun x : S25 => (x.f0, x.f1, x.f2, x.f3))
theorem man_open {W : World} {x : S25} {cs : Array Value} (h : k25.K W x cs.toList) : ∃ (A : Option Addr) (c : Nat), cs = #[.int .i64 x.f0, .int .i64 x.f1, .int .u64 x.f2, .slice A x.f3.length c] ∧ x.f3.length ≤ c ∧ Kd.C PImg.k36 W A x.f3.length x.f3 := by
  obtain ⟨_, _, e, rfl, _, _, rfl, rfl, _, _, rfl, rfl, ⟨A, c, rfl, hc, hC⟩⟩ := h
  refine ⟨A, c, ?_, hc, hC⟩
  apply Array.toList_inj.1
  rw [e]
  rfl
end Go.Proofs.YtejjidggnnhgjaaDoor.HKinds
/- ImageManifest of layer 12's statements, walked whole: all it compares is alike. -/
set_option linter.unusedVariables false
set_option linter.unusedSimpArgs false
namespace Go.Proofs.YtejjidggnnhgjaaDoor.HImLm
open Go.RowKit Go.Proofs.YtejjidggnnhgjaaDoor.PImg Go.Proofs.YtejjidggnnhgjaaDoor.HSum Go.Proofs.YtejjidggnnhgjaaDoor.HImP Go.Proofs.YtejjidggnnhgjaaDoor.HImD Go.Proofs.YtejjidggnnhgjaaDoor.HImE Go.Proofs.YtejjidggnnhgjaaDoor.HImL Go.Proofs.YtejjidggnnhgjaaDoor.HImNm Go.Proofs.YtejjidggnnhgjaaDoor.HImBk Go.Proofs.YtejjidggnnhgjaaDoor.HImT Go.Proofs.YtejjidggnnhgjaaDoorW.PrintWords Go.Proofs.YtejjidggnnhgjaaDoorW.PrintLast Go.Proofs.YtejjidggnnhgjaaDoorW.PrintMore Go.Proofs.YtejjidggnnhgjaaDoor.HCore
theorem clN {W : World} {base g n c : Nat} {xs : List SN} (h : Kd.R k36 36 W base (fun _ => True) (.slice (some ⟨g, 0, none⟩) n c) xs) (i : Nat) (hi : i < n) :
    W.cell? ⟨g, i * 8, none⟩ = some (.int .i64 (xs.getD i z36).f0) ∧ W.cell? ⟨g, i * 8 + 1, none⟩ = some (.int .u64 (xs.getD i z36).f1) ∧ W.cell? ⟨g, i * 8 + 2, none⟩ = some (.int .u64 (xs.getD i z36).f2) ∧ W.cell? ⟨g, i * 8 + 3, none⟩ = some (.int .i64 (xs.getD i z36).f3) ∧ W.cell? ⟨g, i * 8 + 4, none⟩ = some (.int .i64 (xs.getD i z36).f4) ∧ W.cell? ⟨g, i * 8 + 5, none⟩ = some (.int .i64 (xs.getD i z36).f5) ∧ W.cell? ⟨g, i * 8 + 6, none⟩ = some (.int .u32 (xs.getD i z36).f6) ∧ W.cell? ⟨g, i * 8 + 7, none⟩ = some (.int .u32 (xs.getD i z36).f7) := by
  obtain ⟨hl, hnc, hC⟩ := Kd.R_reads' h
  obtain ⟨ad, cs, e1, e2, e3, e4⟩ := ReadsRow.get_ hC z36 (i : Int) (by omega) (by omega)
  obtain rfl := Option.some.inj e1
  have e5 : k36.K W (xs.getD i z36) cs := e3
  obtain rfl := k36_open e5
  have f0 := e4 0 _ rfl
  have f1 := e4 1 _ rfl
  have f2 := e4 2 _ rfl
  have f3 := e4 3 _ rfl
  have f4 := e4 4 _ rfl
  have f5 := e4 5 _ rfl
  have f6 := e4 6 _ rfl
  have f7 := e4 7 _ rfl
  rw [add_plain] at f0 f1 f2 f3 f4 f5 f6 f7
  exact ⟨f0, f1, f2, f3, f4, f5, f6, f7⟩
def OkN (x : SN) : Prop := (Lit.int .i64 x.f0).wf = true ∧ Su x
/-- The given manifest's box and its list. -/
structure Nw (w : World) (gb : Nat) (cs : Array Value) (base : Nat) (B : Option Addr) (n d : Nat) (l : List SN) (W : World) : Prop where
  bel : Below w.heap.size w W
  own : Kd.R k36 36 W base (fun _ => True) (.slice B n d) l
  box : W.heap[gb]? = some (.cells cs 25 (0, 0))
  ok : ∀ x ∈ l, OkN x
  hb : w.heap.size ≤ base
section
variable {w : World} {gb : Nat} {cs : Array Value} {base n d g : Nat} {B : Option Addr} {l : List SN} {W : World}
theorem Nw.step (h : Nw w gb cs base B n d l W) {W' : World} (hb : Below W.heap.size W W') : Nw w gb cs base B n d l W' :=
  ⟨below_step h.bel hb, Kd.R_below h.own hb, (hb.block _ (blk_lt h.box)).trans h.box, h.ok, h.hb⟩
theorem Nw.len (h : Nw w gb cs base B n d l W) : n = l.length := (Kd.R_reads' h.own).1
theorem Nw.at_ (h : Nw w gb cs base B n d l W) (i : Nat) (hi : i < n) : OkN (l.getD i z36) := by
  have hl := h.len
  rw [List.getD_eq_getElem?_getD, List.getElem?_eq_getElem (by omega), Option.getD_some]
  exact h.ok _ (List.getElem_mem _)
theorem Nw.set (h : Nw w gb cs base (some ⟨g, 0, none⟩) n d l W) (i : Nat) (hi : i < n) (x : SN) (hx : OkN x) : Nw w gb cs base (some ⟨g, 0, none⟩) n d (l.set i x) (W.setCells g (i * 8) [.int .i64 x.f0, .int .u64 x.f1, .int .u64 x.f2, .int .i64 x.f3, .int .i64 x.f4, .int .i64 x.f5, .int .u32 x.f6, .int .u32 x.f7]) := by
  obtain ⟨h1, h2, _⟩ := wrN h.own i hi x
  refine ⟨h.bel.grown h2 h.bel.size (fun k hk => Nat.le_trans h.hb (Kd.R_base h.own k hk)), h1, (h2.block _ (blk_lt h.box) (Kd.R_ne h.own h.box (by decide))).trans h.box, fun y hy => ?_, h.hb⟩
  rcases List.mem_or_eq_of_mem_set hy with hy | rfl
  · exact h.ok y hy
  · exact hx
theorem Nw.more (h : Nw w gb cs base (some ⟨g, 0, none⟩) n d l W) (hn : 0 < n) (v : Int) (hv : 0 ≤ v ∧ v < 4294967296) : ∃ l', Nw w gb cs base (some ⟨g, 0, none⟩) n d l' (W.setCell ⟨g, 6, none⟩ (.int .u32 v)) := by
  obtain ⟨hl, hnc, hC⟩ := Kd.R_reads' h.own
  obtain ⟨ad, cl, e1, e2, e3, e4⟩ := ReadsRow.get_ hC z36 (0 : Int) (by omega) (by omega)
  obtain rfl := Option.some.inj e1
  have e5 := k36_open e3
  have hx := h.at_ 0 hn
  have hg0 : rd_T36 l 0 = l.getD 0 z36 := rfl
  obtain ⟨hr, hg⟩ := Kd.R_seg (okp := fun _ => False) (x' := (⟨(l.getD 0 z36).f0, (l.getD 0 z36).f1, (l.getD 0 z36).f2, (l.getD 0 z36).f3, (l.getD 0 z36).f4, (l.getD 0 z36).f5, v, (l.getD 0 z36).f7⟩ : SN)) (seg := [.int .u32 v]) (j := 6) h.own (0 : Int) (by omega) (by omega) e2 (fun j u hu => by have := e4 j u hu; rwa [add_plain] at this) (show 6 + 1 ≤ 8 by omega) (by
    rw [e5]
    exact k36_mkM _ _ _ (⟨(l.getD 0 z36).f0, (l.getD 0 z36).f1, (l.getD 0 z36).f2, (l.getD 0 z36).f3, (l.getD 0 z36).f4, (l.getD 0 z36).f5, v, (l.getD 0 z36).f7⟩ : SN)) (fun _ hk => hk.elim)
  have hw : W.setCells g ((0 : Int).toNat * k36.sz + 6) [.int .u32 v] = W.setCell ⟨g, 6, none⟩ (.int .u32 v) := rfl
  rw [hw] at hr hg
  refine ⟨_, h.bel.grown hg h.bel.size (fun k hk => Nat.le_trans h.hb (Kd.R_base h.own k hk)), hr, (hg.block _ (blk_lt h.box) (Kd.R_ne h.own h.box (by decide))).trans h.box, fun y hy => ?_, h.hb⟩
  rcases List.mem_or_eq_of_mem_set hy with hy | rfl
  · exact h.ok y hy
  · exact ⟨hx.1, hv, hx.2.2⟩
end
theorem R_grow1 {X : Type} {d : Kd X} {t : TypeId} {W W' : World} {base : Nat} {v : Value} {xs : List X} {r1 : Option Nat} (h : Kd.R d t W base (fun _ => True) v xs) (ht : W.grownBy W' r1) (hr : ∀ k, r1 = some k → k < base) : Kd.R d t W' base (fun _ => True) v xs :=
  Kd.R_mono (Kd.R_grown (Kd.R_bound h) ht (fun k hk e => by have := hr k e.symm; have := hk.2.1; omega)) (fun _ _ => trivial)
set_option maxRecDepth 100000 in
set_option maxHeartbeats 64000000 in
theorem law_any (gen next upto : Int) (A : Option Addr) (c : Nat) (ps : List SN) (b : ByteArray) (w : World) (hC : Kd.C k36 w A ps.length ps) (hc : ps.length ≤ c) (h0 : 0 ≤ upto) (hn : ps.length < 2513169434916) (ho : ∀ x ∈ ps, OkN x) (hb : b.size ≤ 1048576) (hT : Tab w) :
    Calls Tryd.prog 3 #[.agg #[.int .i64 gen, .int .i64 next, .int .u64 upto, .slice A ps.length c], .string b] w fun e w' => e = .returned (.bool true) ∧ Below w.heap.size w w' := by
  have HC := Aside0.mk hC
  have HO := Aside0.mk ho
  have HTb := Aside0.mk hT
  have Hc := Aside0.mk hc
  have Hb := Aside0.mk hb
  have HN1 := Aside0.mk hn
  clear hC ho hT hc hn hb
  obtain ⟨sD, HsD⟩ : ∃ s, Aside0 (outN gen next upto ps = s) := ⟨_, ⟨rfl⟩⟩
  obtain ⟨sv, sc⟩ := sD
  obtain ⟨ga, na, ua, xs, HV⟩ : ∃ ga na ua xs, Aside0 (HImDm.val b = (ga, na, ua, xs)) := ⟨_, _, _, _, ⟨rfl⟩⟩
  obtain ⟨cd, HCd⟩ : ∃ cd, Aside0 (HImDm.code b = cd) := ⟨_, ⟨rfl⟩⟩
  have HL6 : Aside0 (xs.length ≤ 65536) := ⟨by have := vN_len b; rw [HV.out] at this; exact this⟩
  go_enter Tryd.func3, Tryd.ntmps3
  go_wp2_with fail
  refine (twin_man gen next upto A _ c ps _ (Kd.C_below HC.out (below_alloc (Below.refl _ _) _)) Hc.out HN1.out).mono ?_
  rintro e w1 ⟨B1, d1, rfl, r1, hb⟩
  have HP := Aside0.mk (blk_below (blk_new _ _) hb)
  have BL := Aside0.mk (below_step (below_alloc (Below.refl _ _) _) hb)
  have hsz : w.heap.size + 1 ≤ w1.heap.size := by have := hb.size; simpa using this
  have HS1 := Aside0.mk hsz
  have R1 : Aside0 (Kd.R k36 36 w1 (w.heap.size + 1) (fun _ => True) (.slice B1 ps.length d1) ps) := ⟨by simpa using r1⟩
  clear r1 hb
  go_wp2_with fail
  refine (encN_p gen next upto _ _ _ ps _ (Kd.C_below (rC R1.out) (below_alloc (Below.refl _ _) _)) (rN R1.out) (fun x hx => (HO.out x hx).1) (Tab.below HTb.out (below_step BL.out (below_alloc (Below.refl _ _) _))) (fun x hx => (HO.out x hx).2) h0 HN1.out).mono ?_
  rintro e w2 ⟨he, hb⟩
  have he2 : e = .returned (.tuple #[.string sv, .int .i64 sc]) := by rw [he, HsD.out]
  clear he
  subst he2
  have HG := Aside0.mk (blk_below (blk_new _ _) hb)
  replace HP := Aside0.mk (blk_below (blk_alloc HP.out _) hb)
  replace R1 := Aside0.mk (Kd.R_below (Kd.R_below R1.out (below_alloc (Below.refl _ _) _)) hb)
  replace BL := Aside0.mk (below_step (below_step BL.out (below_alloc (Below.refl _ _) _)) hb)
  clear hb
  have p0 : _ = some (Value.int .i64 gen) := (blk_cell HP.out 0).trans rfl
  have p1 : _ = some (Value.int .i64 next) := (blk_cell HP.out 1).trans rfl
  have p2 : _ = some (Value.int .u64 upto) := (blk_cell HP.out 2).trans rfl
  have p3 : _ = some (Value.slice A ps.length c) := (blk_cell HP.out 3).trans rfl
  go_wp2_with fail
  refine (encN_d gen next upto _ _ _ ps _ (Kd.C_below HC.out BL.out) Hc.out (fun x hx => (HO.out x hx).2) h0).mono ?_
  rintro e w3 ⟨he, hb⟩
  have he2 : e = .returned (.tuple #[.string sv, .int .i64 sc]) := by rw [he, HsD.out]
  clear he
  subst he2
  replace HP := Aside0.mk (blk_below (HP.out) hb)
  replace HG := Aside0.mk (blk_below (HG.out) hb)
  replace R1 := Aside0.mk (Kd.R_below (R1.out) hb)
  replace BL := Aside0.mk (below_step (BL.out) hb)
  clear hb
  clear p0 p1 p2 p3
  have p0 : _ = some (Value.int .i64 gen) := (blk_cell HP.out 0).trans rfl
  have p1 : _ = some (Value.int .i64 next) := (blk_cell HP.out 1).trans rfl
  have p2 : _ = some (Value.int .u64 upto) := (blk_cell HP.out 2).trans rfl
  have p3 : _ = some (Value.slice A ps.length c) := (blk_cell HP.out 3).trans rfl
  have g0 : _ = some (Value.int .i64 gen) := (blk_cell HG.out 0).trans rfl
  have g1 : _ = some (Value.int .i64 next) := (blk_cell HG.out 1).trans rfl
  have g2 : _ = some (Value.int .u64 upto) := (blk_cell HG.out 2).trans rfl
  have g3 : _ = some (Value.slice B1 ps.length d1) := (blk_cell HG.out 3).trans rfl
  go_wp2_with (first | (go_at_call 10; refine (num_any _ _).mono ?_; rintro e w' ⟨rfl, rfl⟩) | fail)
  refine (same_man gen next upto _ _ _ ps _ _ _ _ (rC R1.out) (rN R1.out) (Kd.C_below HC.out BL.out) Hc.out HN1.out).mono ?_
  rintro e w4 ⟨rfl, hb⟩
  replace HG := Aside0.mk (blk_below (HG.out) hb)
  replace R1 := Aside0.mk (Kd.R_below (R1.out) hb)
  replace BL := Aside0.mk (below_step (BL.out) hb)
  clear hb HP
  clear p0 p1 p2 p3 g0 g1 g2 g3
  have HM : Aside0 (Nw w w1.heap.size #[.int .i64 gen, .int .i64 next, .int .u64 upto, .slice B1 ps.length d1] (w.heap.size + 1) B1 ps.length d1 ps w4) := ⟨⟨BL.out, R1.out, HG.out, HO.out, Nat.le_succ _⟩⟩
  clear HG R1 BL
  have hpl : ps.length ≤ 4611686018427 := by have := HN1.out; omega
  generalize hpn : ps.length = pn at HM hpl ⊢
  have HPN := Aside0.mk hpn
  clear hpn
  have c3 : _ = some (Value.slice B1 pn d1) := (blk_cell HM.out.box 3).trans rfl
  go_wp2_with fail
  go_loopw [11] (fun v11 wr => ∃ (k : Nat) (l : List SN), k ≤ pn ∧ v11 = .int .i64 (k : Int) ∧ Aside0 (Nw w w1.heap.size #[.int .i64 gen, .int .i64 next, .int .u64 upto, .slice B1 pn d1] (w.heap.size + 1) B1 pn d1 l wr)) (fun v11 _ => pn - (intOf v11).toNat)
  case atStart => exact ⟨0, ps, by omega, rfl, HM⟩
  case round =>
    clear HM c3
    obtain ⟨i, l, hki, rfl, HM⟩ := hrel
    have c3 : _ = some (Value.slice B1 pn d1) := (blk_cell HM.out.box 3).trans rfl
    by_cases hlt : (i : Int) < (pn : Int) / 2
    · obtain ⟨g, rfl⟩ : ∃ g, B1 = some ⟨g, 0, none⟩ := by
        rcases own_form HM.out.own with ⟨_, h2, _⟩ | h
        · omega
        · exact h
      obtain ⟨j, hj⟩ : ∃ j : Nat, pn = i + 1 + j := ⟨pn - i - 1, by omega⟩
      obtain ⟨a0, a1, a2, a3, a4, a5, a6, a7⟩ := clN HM.out.own i (by omega)
      obtain ⟨b0, b1, b2, b3, b4, b5, b6, b7⟩ := clN HM.out.own j (by omega)
      have fa0 := frz HM.out.own (i * 8)
      have fa1 := frz HM.out.own (i * 8 + 1)
      have fa2 := frz HM.out.own (i * 8 + 2)
      have fa3 := frz HM.out.own (i * 8 + 3)
      have fa4 := frz HM.out.own (i * 8 + 4)
      have fa5 := frz HM.out.own (i * 8 + 5)
      have fa6 := frz HM.out.own (i * 8 + 6)
      have fa7 := frz HM.out.own (i * 8 + 7)
      have fb0 := frz HM.out.own (j * 8)
      have fb1 := frz HM.out.own (j * 8 + 1)
      have fb2 := frz HM.out.own (j * 8 + 2)
      have fb3 := frz HM.out.own (j * 8 + 3)
      have fb4 := frz HM.out.own (j * 8 + 4)
      have fb5 := frz HM.out.own (j * 8 + 5)
      have fb6 := frz HM.out.own (j * 8 + 6)
      have fb7 := frz HM.out.own (j * 8 + 7)
      have e0 : (pn : Int) - 1 - (i : Int) = (j : Int) := by omega
      have j0 : (0 : Int) ≤ (j : Int) := by omega
      have j1 : (j : Int) < (pn : Int) := by omega
      have i0 : (0 : Int) ≤ (i : Int) := by omega
      have i1 : (i : Int) < (pn : Int) := by omega
      have hij : i < j := by omega
      clear hj
      go_wp2
      have hx := HM.out.at_ i (by omega)
      have hy := HM.out.at_ j (by omega)
      generalize (l.getD i z36) = x at a0 a1 a2 a3 a4 a5 a6 a7 hx
      generalize (l.getD j z36) = y at b0 b1 b2 b3 b4 b5 b6 b7 hy
      have HX := Aside0.mk hx
      have HY := Aside0.mk hy
      clear hx hy
      have gne : w1.heap.size ≠ g := fun e => Kd.R_ne HM.out.own HM.out.box (by decide) (by rw [e]; rfl)
      have gne2 : g ≠ w1.heap.size := fun e => gne e.symm
      have oij : i * 8 ≠ j * 8 := by omega
      go_region
      have HN2 := Aside0.mk (((HM.out.set i (by omega) y HY.out).set j (by omega) x HX.out).step (below_drew (Below.refl _ _)))
      clear HM
      go_wp2
      go_roundw
      case rel => exact ⟨i + 1, _, by omega, by go_num, HN2⟩
      case measure => simp [intOf]; omega
    · by_cases hz : 0 < pn
      · have hz2 : (0 : Int) < (pn : Int) := by omega
        obtain ⟨g, rfl⟩ : ∃ g, B1 = some ⟨g, 0, none⟩ := by
          rcases own_form HM.out.own with ⟨_, h2, _⟩ | h
          · omega
          · exact h
        obtain ⟨_, _, _, _, _, _, a6, _⟩ := clN HM.out.own 0 hz
        have f6 := frz HM.out.own 6
        rw [show 0 * 8 + 6 = 6 from rfl] at a6
        have hx := (HM.out.at_ 0 hz).2.1
        generalize ((l.getD 0 z36).f6) = x6 at a6 hx
        have gne : w1.heap.size ≠ g := fun e => Kd.R_ne HM.out.own HM.out.box (by decide) (by rw [e]; rfl)
        have gne2 : g ≠ w1.heap.size := fun e => gne e.symm
        have g0 : _ = some (Value.int .i64 gen) := (blk_cell HM.out.box 0).trans rfl
        have g1 : _ = some (Value.int .i64 next) := (blk_cell HM.out.box 1).trans rfl
        have g2 : _ = some (Value.int .u64 upto) := (blk_cell HM.out.box 2).trans rfl
        have g3 : _ = some (Value.slice (some ⟨g, 0, none⟩) pn d1) := (blk_cell HM.out.box 3).trans rfl
        have hv0 : (0 : Int) ≤ (x6 + 1) % 4294967296 ∧ (x6 + 1) % 4294967296 < 4294967296 := ⟨by omega, by omega⟩
        obtain ⟨l', hl'⟩ := HM.out.more hz ((x6 + 1) % 4294967296) hv0
        have HM2 := Aside0.mk hl'
        clear hl' hv0
        go_wp2_with fail
        have HG := Aside0.mk HM2.out.box
        have R1 := Aside0.mk HM2.out.own
        have BL := Aside0.mk HM2.out.bel
        have HO1 := Aside0.mk HM2.out.ok
        have HL1 : Aside0 (l'.length < 2513169434916) := ⟨by have e1 := HM2.out.len; have := HN1.out; have := HPN.out; omega⟩
        obtain ⟨sD2, HsD2⟩ : ∃ s, Aside0 (outN gen next upto l' = s) := ⟨_, ⟨rfl⟩⟩
        obtain ⟨sv2, sc2⟩ := sD2
        clear HM HM2 a6 f6 c3
        clear g0 g1 g2 g3
        refine (encN_p gen next upto _ _ _ l' _ (rC R1.out) (rN R1.out) (fun x hx => (HO1.out x hx).1) (Tab.below HTb.out BL.out) (fun x hx => (HO1.out x hx).2) h0 HL1.out).mono ?_
        rintro e w6 ⟨he, hb⟩
        have he2 : e = .returned (.tuple #[.string sv2, .int .i64 sc2]) := by rw [he, HsD2.out]
        clear he
        subst he2
        replace HG := Aside0.mk (blk_below (HG.out) hb)
        replace R1 := Aside0.mk (Kd.R_below (R1.out) hb)
        replace BL := Aside0.mk (below_step (BL.out) hb)
        clear hb
        have g0 : _ = some (Value.int .i64 gen) := (blk_cell HG.out 0).trans rfl
        have g1 : _ = some (Value.int .i64 next) := (blk_cell HG.out 1).trans rfl
        have g2 : _ = some (Value.int .u64 upto) := (blk_cell HG.out 2).trans rfl
        have g3 : _ = some (Value.slice (some ⟨g, 0, none⟩) pn d1) := (blk_cell HG.out 3).trans rfl
        go_wp2_with fail
        refine (twin_man gen next upto _ _ _ l' _ (rC R1.out) (rN R1.out) HL1.out).mono ?_
        rintro e w7 ⟨D1, q1, rfl, r1, hb⟩
        have T1 := Aside0.mk r1
        clear r1
        replace BL := Aside0.mk (below_step BL.out hb)
        clear hb
        clear g0 g1 g2 g3
        clear HG R1
        go_wp2_with fail
        refine (encN_d gen next upto _ _ _ l' _ (rC T1.out) (rN T1.out) (fun x hx => (HO1.out x hx).2) h0).mono ?_
        rintro e w8 ⟨he, hb⟩
        have he2 : e = .returned (.tuple #[.string sv2, .int .i64 sc2]) := by rw [he, HsD2.out]
        clear he
        subst he2
        replace BL := Aside0.mk (below_step BL.out hb)
        clear hb T1
        go_wp2_with (first | (go_at_call 10; refine (num_any _ _).mono ?_; rintro e w' ⟨rfl, rfl⟩) | fail)
        refine (decN_p (Nat.le_trans Hb.out (by decide)) (Tab.below HTb.out BL.out) HV.out HCd.out).mono ?_
        rintro e w9 ⟨Q, qn, qc, rfl, rq, hb⟩
        have RQ := Aside0.mk rq
        have HWb : Aside0 (w.heap.size ≤ w8.heap.size) := ⟨BL.out.size⟩
        have HQb : Aside0 (∀ k, (Value.slice Q qn qc).ownBlock = some k → k < w9.heap.size + 1) := ⟨fun k hk => Nat.lt_succ_of_lt (own_lt (Kd.R_own rq).choose_spec k hk)⟩
        replace BL := Aside0.mk (below_step BL.out hb)
        clear rq hb
        go_wp2_with fail
        refine (decN_p (Nat.le_trans Hb.out (by decide)) (Tab.below HTb.out (below_step BL.out (below_alloc (Below.refl _ _) _))) HV.out HCd.out).mono ?_
        rintro e w10 ⟨Q2, qn2, qc2, rfl, rq, hb⟩
        have RQ2 : Aside0 (Kd.R k36 36 w10 (w9.heap.size + 1) (fun _ => True) (.slice Q2 qn2 qc2) xs) := ⟨by simpa using rq⟩
        have HQ := Aside0.mk (blk_below (blk_new _ _) hb)
        have HQs : Aside0 (w9.heap.size + 1 ≤ w10.heap.size) := ⟨by have := hb.size; simpa using this⟩
        replace RQ := Aside0.mk (Kd.R_below (Kd.R_below RQ.out (below_alloc (Below.refl _ _) _)) hb)
        replace BL := Aside0.mk (below_step (below_step BL.out (below_alloc (Below.refl _ _) _)) hb)
        clear rq hb
        go_wp2_with fail
        refine (decN_d Hb.out HV.out HCd.out).mono ?_
        rintro e w11 ⟨Q3, qn3, qc3, rfl, rq, hb⟩
        have RQ3 : Aside0 (Kd.R k36 36 w11 (w9.heap.size + 1) (fun _ => True) (.slice Q3 qn3 qc3) xs) := ⟨Kd.R_lower rq (by have := HQs.out; simp; omega)⟩
        have HQ2 := Aside0.mk (blk_below (blk_new _ _) hb)
        replace HQ := Aside0.mk (blk_below (blk_alloc HQ.out _) hb)
        replace RQ := Aside0.mk (Kd.R_below (Kd.R_below RQ.out (below_alloc (Below.refl _ _) _)) hb)
        replace RQ2 := Aside0.mk (Kd.R_below (Kd.R_below RQ2.out (below_alloc (Below.refl _ _) _)) hb)
        replace BL := Aside0.mk (below_step (below_step BL.out (below_alloc (Below.refl _ _) _)) hb)
        clear rq hb
        have q0 : _ = some (Value.int .i64 ga) := (blk_cell (blk_alloc HQ.out (.cells #[.int .i64 ga, .int .i64 na, .int .u64 ua, .slice Q3 qn3 qc3] 25)) 0).trans rfl
        have q1 : _ = some (Value.int .i64 na) := (blk_cell (blk_alloc HQ.out (.cells #[.int .i64 ga, .int .i64 na, .int .u64 ua, .slice Q3 qn3 qc3] 25)) 1).trans rfl
        have q2 : _ = some (Value.int .u64 ua) := (blk_cell (blk_alloc HQ.out (.cells #[.int .i64 ga, .int .i64 na, .int .u64 ua, .slice Q3 qn3 qc3] 25)) 2).trans rfl
        have q3 : _ = some (Value.slice Q qn qc) := (blk_cell (blk_alloc HQ.out (.cells #[.int .i64 ga, .int .i64 na, .int .u64 ua, .slice Q3 qn3 qc3] 25)) 3).trans rfl
        go_wp2_with (first | (go_at_call 10; refine (num_any _ _).mono ?_; rintro e w' ⟨rfl, rfl⟩) | fail)
        refine (same_man ga na ua _ _ _ xs _ _ _ _ (Kd.C_below (rC RQ.out) (below_alloc (Below.refl _ _) _)) (rN RQ.out) (Kd.C_below (rC RQ3.out) (below_alloc (Below.refl _ _) _)) (rN RQ3.out) (Nat.lt_of_le_of_lt HL6.out (by decide))).mono ?_
        rintro e w12 ⟨rfl, hb⟩
        clear q0 q1 q2 q3
        have HR := Aside0.mk (blk_below (blk_new _ _) hb)
        replace HQ := Aside0.mk (blk_below (blk_alloc HQ.out _) hb)
        replace HQ2 := Aside0.mk (blk_below (blk_alloc HQ2.out _) hb)
        replace RQ := Aside0.mk (Kd.R_below (Kd.R_below RQ.out (below_alloc (Below.refl _ _) _)) hb)
        replace RQ2 := Aside0.mk (Kd.R_below (Kd.R_below RQ2.out (below_alloc (Below.refl _ _) _)) hb)
        replace RQ3 := Aside0.mk (Kd.R_below (Kd.R_below RQ3.out (below_alloc (Below.refl _ _) _)) hb)
        replace BL := Aside0.mk (below_step (below_step BL.out (below_alloc (Below.refl _ _) _)) hb)
        clear hb
        have h0 : _ = some (Value.int .i64 ga) := (blk_cell HQ2.out 0).trans rfl
        have h1 : _ = some (Value.int .i64 na) := (blk_cell HQ2.out 1).trans rfl
        have h2 : _ = some (Value.int .u64 ua) := (blk_cell HQ2.out 2).trans rfl
        have h3 : _ = some (Value.slice Q2 qn2 qc2) := (blk_cell HQ2.out 3).trans rfl
        have r0 : _ = some (Value.int .i64 ga) := (blk_cell HR.out 0).trans rfl
        have r1 : _ = some (Value.int .i64 na) := (blk_cell HR.out 1).trans rfl
        have r2 : _ = some (Value.int .u64 ua) := (blk_cell HR.out 2).trans rfl
        have r3 : _ = some (Value.slice Q3 qn3 qc3) := (blk_cell HR.out 3).trans rfl
        go_wp2_with (first | (go_at_call 10; refine (num_any _ _).mono ?_; rintro e w' ⟨rfl, rfl⟩) | fail)
        refine (same_man ga na ua _ _ _ xs _ _ _ _ (rC RQ2.out) (rN RQ2.out) (rC RQ3.out) (rN RQ3.out) (Nat.lt_of_le_of_lt HL6.out (by decide))).mono ?_
        rintro e w13 ⟨rfl, hb⟩
        clear h0 h1 h2 h3 r0 r1 r2 r3
        replace HQ := Aside0.mk (blk_below (HQ.out) hb)
        replace HQ2 := Aside0.mk (blk_below (HQ2.out) hb)
        replace HR := Aside0.mk (blk_below (HR.out) hb)
        replace RQ := Aside0.mk (Kd.R_below (RQ.out) hb)
        replace RQ2 := Aside0.mk (Kd.R_below (RQ2.out) hb)
        replace RQ3 := Aside0.mk (Kd.R_below (RQ3.out) hb)
        replace BL := Aside0.mk (below_step (BL.out) hb)
        clear hb
        have q0 : _ = some (Value.int .i64 ga) := (blk_cell HQ.out 0).trans rfl
        have q1 : _ = some (Value.int .i64 na) := (blk_cell HQ.out 1).trans rfl
        have q2 : _ = some (Value.int .u64 ua) := (blk_cell HQ.out 2).trans rfl
        have q3 : _ = some (Value.slice Q qn qc) := (blk_cell HQ.out 3).trans rfl
        go_wp2_with (first | (go_at_call 10; refine (num_any _ _).mono ?_; rintro e w' ⟨rfl, rfl⟩) | fail)
        refine (named_any ga na ua _ _ _ xs _ w.heap.size (Kd.R_lower RQ.out HWb.out) BL.out.size (Nat.le_trans HL6.out (by decide))).mono ?_
        rintro e w14 ⟨rfl, ht, hb⟩
        replace HQ2 := Aside0.mk ((ht.block _ (blk_lt HQ2.out) (Kd.R_ne RQ.out HQ2.out (by decide))).trans HQ2.out)
        replace HR := Aside0.mk ((ht.block _ (blk_lt HR.out) (Kd.R_ne RQ.out HR.out (by decide))).trans HR.out)
        replace RQ2 := Aside0.mk (R_grow1 RQ2.out ht HQb.out)
        replace RQ3 := Aside0.mk (R_grow1 RQ3.out ht HQb.out)
        replace BL := Aside0.mk (below_weaken BL.out (Nat.le_refl _) hb)
        clear ht hb
        clear q0 q1 q2 q3
        have h0 : _ = some (Value.int .i64 ga) := (blk_cell HQ2.out 0).trans rfl
        have h1 : _ = some (Value.int .i64 na) := (blk_cell HQ2.out 1).trans rfl
        have h2 : _ = some (Value.int .u64 ua) := (blk_cell HQ2.out 2).trans rfl
        have h3 : _ = some (Value.slice Q2 qn2 qc2) := (blk_cell HQ2.out 3).trans rfl
        have r0 : _ = some (Value.int .i64 ga) := (blk_cell HR.out 0).trans rfl
        have r1 : _ = some (Value.int .i64 na) := (blk_cell HR.out 1).trans rfl
        have r2 : _ = some (Value.int .u64 ua) := (blk_cell HR.out 2).trans rfl
        have r3 : _ = some (Value.slice Q3 qn3 qc3) := (blk_cell HR.out 3).trans rfl
        go_wp2_with fail
        refine (same_man ga na ua _ _ _ xs _ _ _ _ (rC RQ2.out) (rN RQ2.out) (rC RQ3.out) (rN RQ3.out) (Nat.lt_of_le_of_lt HL6.out (by decide))).mono ?_
        rintro e w15 ⟨rfl, hb⟩
        replace BL := Aside0.mk (below_step BL.out hb)
        go_wp2
        go_ret
        exact ⟨rfl, BL.out⟩
      · have hz2 : ¬ (0 : Int) < (pn : Int) := by omega
        have g0 : _ = some (Value.int .i64 gen) := (blk_cell HM.out.box 0).trans rfl
        have g1 : _ = some (Value.int .i64 next) := (blk_cell HM.out.box 1).trans rfl
        have g2 : _ = some (Value.int .u64 upto) := (blk_cell HM.out.box 2).trans rfl
        have g3 : _ = some (Value.slice B1 pn d1) := (blk_cell HM.out.box 3).trans rfl
        go_wp2_with fail
        obtain ⟨l', hl'⟩ : ∃ l', l' = l := ⟨_, rfl⟩
        rw [← hl'] at HM
        clear hl'
        have HG := Aside0.mk HM.out.box
        have R1 := Aside0.mk HM.out.own
        have BL := Aside0.mk HM.out.bel
        have HO1 := Aside0.mk HM.out.ok
        have HL1 : Aside0 (l'.length < 2513169434916) := ⟨by have e1 := HM.out.len; have := HN1.out; have := HPN.out; omega⟩
        obtain ⟨sD2, HsD2⟩ : ∃ s, Aside0 (outN gen next upto l' = s) := ⟨_, ⟨rfl⟩⟩
        obtain ⟨sv2, sc2⟩ := sD2
        clear HM c3
        clear g0 g1 g2 g3
        refine (encN_p gen next upto _ _ _ l' _ (rC R1.out) (rN R1.out) (fun x hx => (HO1.out x hx).1) (Tab.below HTb.out BL.out) (fun x hx => (HO1.out x hx).2) h0 HL1.out).mono ?_
        rintro e w6 ⟨he, hb⟩
        have he2 : e = .returned (.tuple #[.string sv2, .int .i64 sc2]) := by rw [he, HsD2.out]
        clear he
        subst he2
        replace HG := Aside0.mk (blk_below (HG.out) hb)
        replace R1 := Aside0.mk (Kd.R_below (R1.out) hb)
        replace BL := Aside0.mk (below_step (BL.out) hb)
        clear hb
        have g0 : _ = some (Value.int .i64 gen) := (blk_cell HG.out 0).trans rfl
        have g1 : _ = some (Value.int .i64 next) := (blk_cell HG.out 1).trans rfl
        have g2 : _ = some (Value.int .u64 upto) := (blk_cell HG.out 2).trans rfl
        have g3 : _ = some (Value.slice B1 pn d1) := (blk_cell HG.out 3).trans rfl
        go_wp2_with fail
        refine (twin_man gen next upto _ _ _ l' _ (rC R1.out) (rN R1.out) HL1.out).mono ?_
        rintro e w7 ⟨D1, q1, rfl, r1, hb⟩
        have T1 := Aside0.mk r1
        clear r1
        replace BL := Aside0.mk (below_step BL.out hb)
        clear hb
        clear g0 g1 g2 g3
        clear HG R1
        go_wp2_with fail
        refine (encN_d gen next upto _ _ _ l' _ (rC T1.out) (rN T1.out) (fun x hx => (HO1.out x hx).2) h0).mono ?_
        rintro e w8 ⟨he, hb⟩
        have he2 : e = .returned (.tuple #[.string sv2, .int .i64 sc2]) := by rw [he, HsD2.out]
        clear he
        subst he2
        replace BL := Aside0.mk (below_step BL.out hb)
        clear hb T1
        go_wp2_with (first | (go_at_call 10; refine (num_any _ _).mono ?_; rintro e w' ⟨rfl, rfl⟩) | fail)
        refine (decN_p (Nat.le_trans Hb.out (by decide)) (Tab.below HTb.out BL.out) HV.out HCd.out).mono ?_
        rintro e w9 ⟨Q, qn, qc, rfl, rq, hb⟩
        have RQ := Aside0.mk rq
        have HWb : Aside0 (w.heap.size ≤ w8.heap.size) := ⟨BL.out.size⟩
        have HQb : Aside0 (∀ k, (Value.slice Q qn qc).ownBlock = some k → k < w9.heap.size + 1) := ⟨fun k hk => Nat.lt_succ_of_lt (own_lt (Kd.R_own rq).choose_spec k hk)⟩
        replace BL := Aside0.mk (below_step BL.out hb)
        clear rq hb
        go_wp2_with fail
        refine (decN_p (Nat.le_trans Hb.out (by decide)) (Tab.below HTb.out (below_step BL.out (below_alloc (Below.refl _ _) _))) HV.out HCd.out).mono ?_
        rintro e w10 ⟨Q2, qn2, qc2, rfl, rq, hb⟩
        have RQ2 : Aside0 (Kd.R k36 36 w10 (w9.heap.size + 1) (fun _ => True) (.slice Q2 qn2 qc2) xs) := ⟨by simpa using rq⟩
        have HQ := Aside0.mk (blk_below (blk_new _ _) hb)
        have HQs : Aside0 (w9.heap.size + 1 ≤ w10.heap.size) := ⟨by have := hb.size; simpa using this⟩
        replace RQ := Aside0.mk (Kd.R_below (Kd.R_below RQ.out (below_alloc (Below.refl _ _) _)) hb)
        replace BL := Aside0.mk (below_step (below_step BL.out (below_alloc (Below.refl _ _) _)) hb)
        clear rq hb
        go_wp2_with fail
        refine (decN_d Hb.out HV.out HCd.out).mono ?_
        rintro e w11 ⟨Q3, qn3, qc3, rfl, rq, hb⟩
        have RQ3 : Aside0 (Kd.R k36 36 w11 (w9.heap.size + 1) (fun _ => True) (.slice Q3 qn3 qc3) xs) := ⟨Kd.R_lower rq (by have := HQs.out; simp; omega)⟩
        have HQ2 := Aside0.mk (blk_below (blk_new _ _) hb)
        replace HQ := Aside0.mk (blk_below (blk_alloc HQ.out _) hb)
        replace RQ := Aside0.mk (Kd.R_below (Kd.R_below RQ.out (below_alloc (Below.refl _ _) _)) hb)
        replace RQ2 := Aside0.mk (Kd.R_below (Kd.R_below RQ2.out (below_alloc (Below.refl _ _) _)) hb)
        replace BL := Aside0.mk (below_step (below_step BL.out (below_alloc (Below.refl _ _) _)) hb)
        clear rq hb
        have q0 : _ = some (Value.int .i64 ga) := (blk_cell (blk_alloc HQ.out (.cells #[.int .i64 ga, .int .i64 na, .int .u64 ua, .slice Q3 qn3 qc3] 25)) 0).trans rfl
        have q1 : _ = some (Value.int .i64 na) := (blk_cell (blk_alloc HQ.out (.cells #[.int .i64 ga, .int .i64 na, .int .u64 ua, .slice Q3 qn3 qc3] 25)) 1).trans rfl
        have q2 : _ = some (Value.int .u64 ua) := (blk_cell (blk_alloc HQ.out (.cells #[.int .i64 ga, .int .i64 na, .int .u64 ua, .slice Q3 qn3 qc3] 25)) 2).trans rfl
        have q3 : _ = some (Value.slice Q qn qc) := (blk_cell (blk_alloc HQ.out (.cells #[.int .i64 ga, .int .i64 na, .int .u64 ua, .slice Q3 qn3 qc3] 25)) 3).trans rfl
        go_wp2_with (first | (go_at_call 10; refine (num_any _ _).mono ?_; rintro e w' ⟨rfl, rfl⟩) | fail)
        refine (same_man ga na ua _ _ _ xs _ _ _ _ (Kd.C_below (rC RQ.out) (below_alloc (Below.refl _ _) _)) (rN RQ.out) (Kd.C_below (rC RQ3.out) (below_alloc (Below.refl _ _) _)) (rN RQ3.out) (Nat.lt_of_le_of_lt HL6.out (by decide))).mono ?_
        rintro e w12 ⟨rfl, hb⟩
        clear q0 q1 q2 q3
        have HR := Aside0.mk (blk_below (blk_new _ _) hb)
        replace HQ := Aside0.mk (blk_below (blk_alloc HQ.out _) hb)
        replace HQ2 := Aside0.mk (blk_below (blk_alloc HQ2.out _) hb)
        replace RQ := Aside0.mk (Kd.R_below (Kd.R_below RQ.out (below_alloc (Below.refl _ _) _)) hb)
        replace RQ2 := Aside0.mk (Kd.R_below (Kd.R_below RQ2.out (below_alloc (Below.refl _ _) _)) hb)
        replace RQ3 := Aside0.mk (Kd.R_below (Kd.R_below RQ3.out (below_alloc (Below.refl _ _) _)) hb)
        replace BL := Aside0.mk (below_step (below_step BL.out (below_alloc (Below.refl _ _) _)) hb)
        clear hb
        have h0 : _ = some (Value.int .i64 ga) := (blk_cell HQ2.out 0).trans rfl
        have h1 : _ = some (Value.int .i64 na) := (blk_cell HQ2.out 1).trans rfl
        have h2 : _ = some (Value.int .u64 ua) := (blk_cell HQ2.out 2).trans rfl
        have h3 : _ = some (Value.slice Q2 qn2 qc2) := (blk_cell HQ2.out 3).trans rfl
        have r0 : _ = some (Value.int .i64 ga) := (blk_cell HR.out 0).trans rfl
        have r1 : _ = some (Value.int .i64 na) := (blk_cell HR.out 1).trans rfl
        have r2 : _ = some (Value.int .u64 ua) := (blk_cell HR.out 2).trans rfl
        have r3 : _ = some (Value.slice Q3 qn3 qc3) := (blk_cell HR.out 3).trans rfl
        go_wp2_with (first | (go_at_call 10; refine (num_any _ _).mono ?_; rintro e w' ⟨rfl, rfl⟩) | fail)
        refine (same_man ga na ua _ _ _ xs _ _ _ _ (rC RQ2.out) (rN RQ2.out) (rC RQ3.out) (rN RQ3.out) (Nat.lt_of_le_of_lt HL6.out (by decide))).mono ?_
        rintro e w13 ⟨rfl, hb⟩
        clear h0 h1 h2 h3 r0 r1 r2 r3
        replace HQ := Aside0.mk (blk_below (HQ.out) hb)
        replace HQ2 := Aside0.mk (blk_below (HQ2.out) hb)
        replace HR := Aside0.mk (blk_below (HR.out) hb)
        replace RQ := Aside0.mk (Kd.R_below (RQ.out) hb)
        replace RQ2 := Aside0.mk (Kd.R_below (RQ2.out) hb)
        replace RQ3 := Aside0.mk (Kd.R_below (RQ3.out) hb)
        replace BL := Aside0.mk (below_step (BL.out) hb)
        clear hb
        have q0 : _ = some (Value.int .i64 ga) := (blk_cell HQ.out 0).trans rfl
        have q1 : _ = some (Value.int .i64 na) := (blk_cell HQ.out 1).trans rfl
        have q2 : _ = some (Value.int .u64 ua) := (blk_cell HQ.out 2).trans rfl
        have q3 : _ = some (Value.slice Q qn qc) := (blk_cell HQ.out 3).trans rfl
        go_wp2_with (first | (go_at_call 10; refine (num_any _ _).mono ?_; rintro e w' ⟨rfl, rfl⟩) | fail)
        refine (named_any ga na ua _ _ _ xs _ w.heap.size (Kd.R_lower RQ.out HWb.out) BL.out.size (Nat.le_trans HL6.out (by decide))).mono ?_
        rintro e w14 ⟨rfl, ht, hb⟩
        replace HQ2 := Aside0.mk ((ht.block _ (blk_lt HQ2.out) (Kd.R_ne RQ.out HQ2.out (by decide))).trans HQ2.out)
        replace HR := Aside0.mk ((ht.block _ (blk_lt HR.out) (Kd.R_ne RQ.out HR.out (by decide))).trans HR.out)
        replace RQ2 := Aside0.mk (R_grow1 RQ2.out ht HQb.out)
        replace RQ3 := Aside0.mk (R_grow1 RQ3.out ht HQb.out)
        replace BL := Aside0.mk (below_weaken BL.out (Nat.le_refl _) hb)
        clear ht hb
        clear q0 q1 q2 q3
        have h0 : _ = some (Value.int .i64 ga) := (blk_cell HQ2.out 0).trans rfl
        have h1 : _ = some (Value.int .i64 na) := (blk_cell HQ2.out 1).trans rfl
        have h2 : _ = some (Value.int .u64 ua) := (blk_cell HQ2.out 2).trans rfl
        have h3 : _ = some (Value.slice Q2 qn2 qc2) := (blk_cell HQ2.out 3).trans rfl
        have r0 : _ = some (Value.int .i64 ga) := (blk_cell HR.out 0).trans rfl
        have r1 : _ = some (Value.int .i64 na) := (blk_cell HR.out 1).trans rfl
        have r2 : _ = some (Value.int .u64 ua) := (blk_cell HR.out 2).trans rfl
        have r3 : _ = some (Value.slice Q3 qn3 qc3) := (blk_cell HR.out 3).trans rfl
        go_wp2_with fail
        refine (same_man ga na ua _ _ _ xs _ _ _ _ (rC RQ2.out) (rN RQ2.out) (rC RQ3.out) (rN RQ3.out) (Nat.lt_of_le_of_lt HL6.out (by decide))).mono ?_
        rintro e w15 ⟨rfl, hb⟩
        replace BL := Aside0.mk (below_step BL.out hb)
        go_wp2
        go_ret
        exact ⟨rfl, BL.out⟩
theorem walk (x : HKinds.S25) (cs : Array Value) (b : ByteArray) (W : World) (hK : (HKinds.k25).K W x cs.toList) (q2 : (Lit.int .u64 x.f2).wf = true) (q3 : x.f3.length * 56 ≤ 140737488351232 ∧ ∀ y ∈ x.f3, (Lit.int .i64 y.f0).wf = true ∧ (Lit.int .u64 y.f1).wf = true ∧ (Lit.int .u64 y.f2).wf = true ∧ (Lit.int .i64 y.f3).wf = true ∧ (Lit.int .i64 y.f4).wf = true ∧ (Lit.int .i64 y.f5).wf = true ∧ (Lit.int .u32 y.f6).wf = true ∧ (Lit.int .u32 y.f7).wf = true) (u1 : b.size ≤ 1048576) (hT : Tab W) :
    Calls Tryd.prog 3 #[.agg cs, .string b] W fun e w' => e = .returned (.bool true) ∧ Below W.heap.size W w' := by
  obtain ⟨A, c, rfl, hc, hC⟩ := HKinds.man_open hK
  refine law_any x.f0 x.f1 x.f2 A c x.f3 b W hC hc (rng_u64 q2).1 (by have := q3.1; omega) (fun y hy => ?_) u1 hT
  obtain ⟨y0, _, _, _, _, _, y6, y7⟩ := q3.2 y hy
  exact ⟨y0, ⟨(rng_u32 y6).1, by have := (rng_u32 y6).2; omega⟩, ⟨(rng_u32 y7).1, by have := (rng_u32 y7).2; omega⟩⟩
end Go.Proofs.YtejjidggnnhgjaaDoor.HImLm
/- What the row's reading of an argument gives, in the words of kinds: numbers, truths, texts, slices of whatever depth, structs of any number of fields, each with its bounds out of the row's own weights. -/
set_option linter.unusedVariables false
set_option linter.unusedSimpArgs false
namespace Go.Proofs.YtejjidggnnhgjaaDoor.HOpen
open Go.ChangeShapes Go.WideShapes Go.Deep Go.Proofs.YtejjidggnnhgjaaDoorW.PrintWords
/-- A reading of type t, within the reach, gives a datum of kind d that meets Q. -/
def Opens {α : Type} (P : Program) (t : TypeId) (d : Kd α) (Q : α → Prop) : Prop :=
  ∀ {H : Type} (enc : TypeId × Value → H) (w : World) (base : Nat) (spare : Nat → Bool) (held : Bool) (fuel : Nat) (cs : List Value) (D : DataW H) (ps : List MemPlace),
    DataW.trod enc P w base spare held fuel t cs = some (D, ps) → (∀ n ∈ D.weights P t, n ≤ reachBytes) → ∃ x, d.K w x cs ∧ Q x
theorem opens_int {P : Program} {t : TypeId} {k : IntKind} (h : P.underlying t = some (.int k)) : Opens P t (Kd.int k) (fun n => (Lit.int k n).wf = true) := by
  intro H enc w base spare held fuel cs D ps ht hw
  obtain ⟨n, rfl, hx, wf⟩ := DataW.trod_int h ht
  exact ⟨n, rfl, wf⟩
theorem weights_all {H : Type} {P : Program} {e : TypeId} : ∀ {l : List (DataW H)} {d : DataW H}, d ∈ l → ∀ n ∈ d.weights P e, n ∈ DataW.weightsAll P e l
  | d0 :: l, d, hd, n, hn => by
    simp only [DataW.weightsAll, List.mem_append]
    rcases List.mem_cons.1 hd with rfl | hd
    · exact Or.inl hn
    · exact Or.inr (weights_all hd n hn)
theorem list_choose {α : Type} {p : Nat → α → Prop} : ∀ n, (∀ i, i < n → ∃ x, p i x) → ∃ xs : List α, xs.length = n ∧ ∀ i x, xs[i]? = some x → p i x
  | 0, _ => ⟨[], rfl, fun i x h => by simp at h⟩
  | n + 1, h => by
    obtain ⟨xs, hl, hx⟩ := list_choose n fun i hi => h i (by omega)
    obtain ⟨x, hp⟩ := h n (by omega)
    refine ⟨xs ++ [x], by rw [List.length_append, hl]; rfl, fun i y hy => ?_⟩
    by_cases hi : i < n
    · rw [List.getElem?_append_left (by omega)] at hy
      exact hx i y hy
    · have hlt := (List.getElem?_eq_some_iff.1 hy).1
      rw [List.length_append, hl, List.length_singleton] at hlt
      obtain rfl : i = n := by omega
      rw [List.getElem?_append_right (by omega), hl, Nat.sub_self] at hy
      simp at hy
      subst hy
      exact hp
theorem opens_slice {α : Type} {P : Program} {t e : TypeId} {e' B : Nat} {d : Kd α} {Q : α → Prop} (h : P.underlying t = some (.slice e)) (hd : Opens P e d Q) (hc : P.cellsOf e = d.sz) (hB : P.bytesOf e = B) :
    Opens P t (Kd.slice e' d) (fun xs => xs.length * B ≤ 140737488351232 ∧ ∀ x ∈ xs, Q x) := by
  intro H enc w base spare held fuel cs D ps ht hw
  rcases open_slice h ht with ⟨rfl, hx⟩ | ⟨a, len, cap, m, n, Dt, Pl, rfl, hb, hl, hm, hmm, hx, hel⟩
  · exact ⟨[], ⟨none, 0, rfl, Nat.le_refl _, Kd.C_nil d w⟩, by simp, by simp⟩
  obtain ⟨rfl, rfl⟩ := Prod.mk.inj hx
  have hlm : len ≤ m := by rw [hmm]; split <;> omega
  have hwi : ∀ i, i < len → ∀ q ∈ (Dt i).weights P e, q ≤ reachBytes := fun i hi q hq => hw q (by
    simp only [DataW.weights, h, List.mem_cons, List.mem_append]
    exact Or.inr (Or.inl (weights_all (d := Dt i) (List.mem_map.2 ⟨i, List.mem_range.2 hi, rfl⟩) q hq)))
  have hlen : len * B ≤ 140737488351232 := by
    have z := hw ((((List.range len).map Dt).length + ((List.range (m - len)).map fun j => Dt (len + j)).length) * P.bytesOf e) (by simp [DataW.weights, h])
    rw [hB, List.length_map, List.length_range] at z
    exact Nat.le_trans (Nat.mul_le_mul_right _ (by omega)) z
  obtain ⟨xs, hxl, hxs⟩ := list_choose (p := fun i x => Q x ∧ ∃ cs', w.cells? base (a.add (i * P.cellsOf e)) (P.cellsOf e) = some cs' ∧ d.K w x cs') len fun i hi => by
    obtain ⟨cs', h1, h2⟩ := hel i (by omega)
    obtain ⟨x, hk, hq⟩ := hd enc w base spare held n cs' (Dt i) (Pl i) h2 (hwi i hi)
    exact ⟨x, hq, cs', h1, hk⟩
  subst hxl
  refine ⟨xs, ⟨some a, cap, rfl, hl, rfl, ?_, fun _ => ⟨a, rfl, fun j p hj => ?_⟩⟩, hlen, fun x hx => ?_⟩
  · have : maxLen = 9223372036854775807 := rfl
    omega
  · obtain ⟨_, cs', h1, hk⟩ := hxs j p hj
    obtain ⟨_, hlen', hcell⟩ := World.cells?_some h1
    refine ⟨cs', d.K_len hk, hk, fun i u hu => ?_⟩
    have hi : i < P.cellsOf e := by rw [← hlen']; exact (List.getElem?_eq_some_iff.1 hu).1
    have := hcell i hi
    rw [Go.Deep.add_add, hu, hc] at this
    exact this
  · obtain ⟨i, hi⟩ := List.getElem?_of_mem hx
    exact (hxs i x hi).1
/-- The fields fs, whose cells begin at o. -/
def OpensFs {α : Type} (P : Program) (fs : List Field) (o : Nat) (d : Kd α) (Q : α → Prop) : Prop :=
  ∀ {H : Type} (enc : TypeId × Value → H) (w : World) (base : Nat) (spare : Nat → Bool) (held : Bool) (n : Nat) (cs : List Value) (xs : List (DataW H × List MemPlace)),
    xs.length = fs.length → (∀ (i : Nat) (f : Field), fs[i]? = some f → DataW.trod enc P w base spare held n f.type ((cs.drop f.offset).take (P.cellsOf f.type)) = xs[i]?) →
    (∀ q ∈ DataW.weightsEach P (fs.map (·.type)) (xs.map (·.1)), q ≤ reachBytes) → ∃ x, d.K w x ((cs.drop o).take d.sz) ∧ Q x
theorem opens_one {α : Type} {P : Program} {f : Field} {o : Nat} {d : Kd α} {Q : α → Prop} (hd : Opens P f.type d Q) (hc : P.cellsOf f.type = d.sz) (ho : f.offset = o) : OpensFs P [f] o d Q := by
  intro H enc w base spare held n cs xs hl hx hw
  match xs, hl with
  | [y], _ =>
    have h0 := hx 0 f rfl
    rw [hc, ho] at h0
    exact hd enc w base spare held n _ y.1 y.2 h0 (fun q hq => hw q (by simp [DataW.weightsEach, hq]))
theorem opens_cons {α β : Type} {P : Program} {f : Field} {fs : List Field} {o o' : Nat} {d : Kd α} {d' : Kd β} {Q : α → Prop} {Q' : β → Prop} (hd : Opens P f.type d Q) (hc : P.cellsOf f.type = d.sz) (ho : f.offset = o) (hr : OpensFs P fs o' d' Q') (ho' : o' = o + d.sz) :
    OpensFs P (f :: fs) o (Kd.pair d d') (fun x => Q x.1 ∧ Q' x.2) := by
  intro H enc w base spare held n cs xs hl hx hw
  match xs, hl with
  | y :: ys, hl =>
    have h0 := hx 0 f rfl
    rw [hc, ho] at h0
    obtain ⟨x, hk, hq⟩ := hd enc w base spare held n _ y.1 y.2 h0 (fun q hq => hw q (by simp [DataW.weightsEach, hq]))
    obtain ⟨x', hk', hq'⟩ := hr enc w base spare held n cs ys (by simpa using hl) (fun i g hg => by have := hx (i + 1) g hg; simpa using this) (fun q hq => hw q (by simp only [List.map_cons, DataW.weightsEach, List.mem_append]; exact Or.inr hq))
    refine ⟨(x, x'), ⟨_, _, ?_, hk, hk'⟩, hq, hq'⟩
    rw [ho', ← List.drop_drop]
    exact List.take_add
theorem opens_struct {α : Type} {P : Program} {t : TypeId} {fs : Array Field} {d : Kd α} {Q : α → Prop} (h : P.underlying t = some (.struct fs)) (hf : OpensFs P fs.toList 0 d Q) (hc : P.cellsOf t = d.sz) : Opens P t d Q := by
  intro H enc w base spare held fuel cs D ps ht hw
  obtain ⟨xs, n, _, hx, hl, hlen, hfs⟩ := DataW.trod_struct h ht
  obtain ⟨rfl, rfl⟩ := Prod.mk.inj hx
  obtain ⟨x, hk, hq⟩ := hf enc w base spare held n cs xs (by simpa using hlen) (fun i f hf => hfs i f (by simpa using hf)) (fun q hq => hw q (by simpa [DataW.weights, h] using hq))
  refine ⟨x, ?_, hq⟩
  rwa [List.drop_zero, List.take_of_length_le (by omega)] at hk
theorem opens_iso {α β : Type} {P : Program} {t : TypeId} {d : Kd α} {Q : α → Prop} (f : β → α) (g : α → β) (hfg : ∀ a, f (g a) = a) (h : Opens P t d Q) : Opens P t (Kd.iso d f) (fun y => Q (f y)) := by
  intro H enc w base spare held fuel cs D ps ht hw
  obtain ⟨x, hk, hq⟩ := h enc w base spare held fuel cs D ps ht hw
  refine ⟨g x, ?_, ?_⟩
  · show d.K w (f (g x)) cs
    rw [hfg]
    exact hk
  · show Q (f (g x))
    rw [hfg]
    exact hq
/-- An argument of a law. -/
theorem opens_arg {α : Type} {P : Program} {H : Type} {enc : TypeId × Value → H} {w : World} {base : Nat} {spare : Nat → Bool} {held : Bool} {t : TypeId} {v : Value} {D : DataW H} {ps : List MemPlace} {ts : List TypeId} {ds : List (DataW H)} {j : Nat} {d : Kd α} {Q : α → Prop}
    (hd : Opens P t d Q) (h : DataW.Trod enc P w base spare held t v D ps) (hsz : (DataW.weightsEach P ts ds).all (· ≤ reachBytes) = true) (ht : ts[j]? = some t) (hD : ds[j]? = some D) : ∃ x, d.K w x v.cells.toList ∧ Q x := by
  obtain ⟨fuel, hf⟩ := h
  exact hd enc w base spare held fuel _ D ps hf fun n hn => by
    have := List.all_eq_true.1 hsz _ (DataW.weights_mem_each ht hD n hn)
    simpa using this
end Go.Proofs.YtejjidggnnhgjaaDoor.HOpen
