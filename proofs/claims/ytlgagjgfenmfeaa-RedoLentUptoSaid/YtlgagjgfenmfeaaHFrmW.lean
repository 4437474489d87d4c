/- FrameCommits, by the program: what its reader's closure leaves, read or given up; and the call itself. -/
import Derived.Test.YtlgagjgfenmfeaaHDecW
set_option linter.unusedVariables false
set_option linter.unusedSimpArgs false
namespace Go.Proofs.Ytlgagjgfenmfeaa.HFrmW
open Go.RowKit Go.Proofs.Ytlgagjgfenmfeaa.PRed Go.Proofs.Ytlgagjgfenmfeaa.HBase Go.Proofs.Ytlgagjgfenmfeaa.HRedL Go.Proofs.Ytlgagjgfenmfeaa.HDec Go.Proofs.Ytlgagjgfenmfeaa.HGive Go.Proofs.Ytlgagjgfenmfeaa.HCaught Go.Proofs.Ytlgagjgfenmfeaa.HDecW Go.Proofs.YtlgagjgfenmfeaaW.PrintWords Go.Proofs.YtlgagjgfenmfeaaW.PrintLast Go.Proofs.YtlgagjgfenmfeaaW.PrintMore Go.Proofs.Ytlgagjgfenmfeaa.HCore

/-- What stands while a body is read: the text's variable in block sb, the list in lb, the reader in rb. -/
structure Fr (w : World) (sb lb rb : Nat) (s : ByteArray) (p : Int) (v : Value) (wr : World) : Prop where
  turn : Turn lb w wr
  sbx : wr.heap[sb]? = some (.cells #[.string s] 9 (0, 0))
  lst : wr.heap[lb]? = some (.cells #[v] 42 (0, 0))
  rdr : wr.heap[rb]? = some (Rd s p)
  lt : sb < w.heap.size ∧ lb < w.heap.size ∧ w.heap.size ≤ rb
  ne : sb ≠ lb
section
variable {w wr wr' : World} {sb lb rb : Nat} {s : ByteArray} {p q : Int} {v : Value}
theorem Fr.below (h : Fr w sb lb rb s p v wr) (hb : Below wr.heap.size wr wr') : Fr w sb lb rb s p v wr' :=
  ⟨h.turn.trans (Turn.of_below hb), (hb.block _ (blk_lt h.sbx)).trans h.sbx, (hb.block _ (blk_lt h.lst)).trans h.lst, (hb.block _ (blk_lt h.rdr)).trans h.rdr, h.lt, h.ne⟩
theorem Fr.drawn (h : Fr w sb lb rb s p v wr) (hd : Drawn0 wr wr') : Fr w sb lb rb s p v wr' := h.below hd.below
theorem Fr.reads (h : Fr w sb lb rb s p v wr) (ht : Turn rb wr wr') (hr : wr'.heap[rb]? = some (Rd s q)) : Fr w sb lb rb s q v wr' := by
  have h1 := h.lt
  exact ⟨⟨ht.os.trans h.turn.os, ht.tape.trans h.turn.tape, ht.output.trans h.turn.output, Nat.le_trans h.turn.size ht.size, fun k hk hg => (ht.block k (Nat.lt_of_lt_of_le hk h.turn.size) (by omega)).trans (h.turn.block k hk hg)⟩, ht.blk h.sbx (by omega), ht.blk h.lst (by omega), hr, h.lt, h.ne⟩
theorem Fr.more (h : Fr w sb lb rb s p v wr) {v' : Value} (hb : Below w.heap.size wr wr') (hr : wr'.heap[rb]? = some (Rd s p)) : Fr w sb lb rb s p v' (wr'.setCell ⟨lb, 0, none⟩ v') := by
  have h1 := h.lt
  have r1 := (hb.block _ h.lt.1).trans h.sbx
  have r2 := (hb.block _ h.lt.2.1).trans h.lst
  have ht : Turn lb w wr' := ⟨hb.os.trans h.turn.os, hb.tape.trans h.turn.tape, hb.output.trans h.turn.output, Nat.le_trans h.turn.size hb.size, fun k hk hc => (hb.block k hk).trans (h.turn.block k hk hc)⟩
  exact ⟨ht.trans (Turn.set _ _ _ _), blk_far r1 h.ne _, (blk_set r2 0 _).trans rfl, blk_far hr (by show rb ≠ lb; omega) _, h.lt, h.ne⟩
theorem Fr.c (h : Fr w sb lb rb s p v wr) : wr.cell? ⟨sb, 0, none⟩ = some (.string s) ∧ wr.cell? ⟨lb, 0, none⟩ = some v ∧ wr.frozen? ⟨lb, 0, none⟩ = false :=
  ⟨(blk_cell h.sbx 0).trans rfl, (blk_cell h.lst 0).trans rfl, blk_frozen h.lst 0⟩
end
/-- What the closure leaves. -/
def LeftF (w : World) (lb : Nat) (D : Option (List S25)) (e : Ending) (w' : World) : Prop :=
  Turn lb w w' ∧ match D with
  | some l => e = .returned (.tuple #[]) ∧ ∃ v, w'.heap[lb]? = some (.cells #[v] 42 (0, 0)) ∧ Kd.S k25 25 w' w.heap.size (fun _ => True) v l
  | none => e = gives
theorem LeftF.gone {w w' : World} {lb : Nat} {D : Option (List S25)} (h : Turn lb w w') (hD : D = none) : LeftF w lb D gives w' := by subst hD; exact ⟨h, rfl⟩

set_option maxRecDepth 100000 in
set_option maxHeartbeats 4000000 in
theorem innerF (w : World) (sb lb : Nat) (s : ByteArray) (hs : s.size ≤ 1000000000000) (hsb : w.heap[sb]? = some (.cells #[.string s] 9 (0, 0))) (hlb : w.heap[lb]? = some (.cells #[.slice none 0 0] 42 (0, 0))) (hne : sb ≠ lb) :
    Calls Try.prog 37 #[.pointer (some ⟨sb, 0, none⟩), .pointer (some ⟨lb, 0, none⟩)] w fun e w' => LeftF w lb (frun s (s.size + 1) 0 []) e w' := by
  have H0 : Aside0 (Fr w sb lb w.heap.size s 0 (.slice none 0 0) (w.alloc (.cells #[.string s, .int .i64 0] 69))) :=
    ⟨⟨Turn.of_below (below_alloc (Below.refl _ _) _), (heap_alloc_old _ _ (blk_lt hsb)).trans hsb, (heap_alloc_old _ _ (blk_lt hlb)).trans hlb, heap_alloc_new _ _, ⟨blk_lt hsb, blk_lt hlb, Nat.le_refl _⟩, hne⟩⟩
  have c0 : _ = some (Value.string s) := (blk_cell hsb 0).trans rfl
  have HS := Aside0.mk hs
  obtain ⟨D, hD⟩ : ∃ D, D = frun s (s.size + 1) 0 [] := ⟨_, rfl⟩
  rw [← hD]
  have HD := Aside0.mk hD
  clear hsb hlb hs hD
  go_enter Try.func37, Try.ntmps37
  go_wp2_with fail
  clear c0
  go_loopg [4] (s.size + 1) (fun gk v4 wr => ∃ (p : Int) (v : Value) (l : List S25), Aside0 (0 ≤ p ∧ p ≤ (s.size : Int) ∧ (s.size : Int) < p + gk ∧ (l.length : Int) ≤ p) ∧ Aside0 (Fr w sb lb w.heap.size s p v wr) ∧ Aside0 (Kd.S k25 25 wr w.heap.size (fun _ => True) v l) ∧ Aside0 (D = frun s gk p l))
  case atStart => exact ⟨0, _, [], ⟨by omega, by omega, by omega, by simp⟩, H0, ⟨Kd.S_nil _ _ _ _ _⟩, HD⟩
  case round =>
    clear H0 HD
    obtain ⟨p, v, l, HP, HF, HO, HD⟩ := hrel
    have hD := HD.out
    obtain ⟨hp0, hps, hpk, hpl⟩ := HP.out
    cases gk with
    | zero => exact absurd hpk (by omega)
    | succ k =>
      simp only [frun] at hD
      clear HD
      by_cases hlt : p < (s.size : Int)
      · have hpb : (p == (s.size : Int)) = false := beq_eq_false_iff_ne.2 (by omega)
        rw [if_pos hlt] at hD
        clear hlt
        go_wp2_with fail
        refine (over_any _ s p _ HF.out.rdr).mono ?_
        rintro e w1 ⟨rfl, hdr⟩
        have HF := Aside0.mk (HF.out.drawn hdr)
        have HO := Aside0.mk (Kd.S_below HO.out hdr.below)
        clear hdr
        rw [hpb]
        obtain ⟨b, q, e1, hr1⟩ : ∃ v q e, rtext s p 1048576 = (v, q, e) := ⟨_, _, _, rfl⟩
        rw [hr1] at hD
        simp only at hD
        by_cases he1 : e1 = 0
        · subst he1
          rw [if_pos rfl] at hD
          have hg : 0 ≤ p ∧ p < q ∧ q ≤ s.size ∧ b.size ≤ s.size := by
            rcases rtext_good s p 1048576 with ⟨_, a1, a2, a3, a4⟩ | a0
            · rw [hr1] at a2 a3 a4; exact ⟨a1, a2, a3, a4⟩
            · rw [hr1] at a0; exact absurd rfl a0
          have HG := Aside0.mk hg
          have HD := Aside0.mk hD
          clear hD hg
          go_wp2_with fail
          refine (blob_ok _ s p _ HF.out.rdr (by have := HS.out; omega) _ _ hr1).mono ?_
          rintro e w2 ⟨rfl, ht2, hg2⟩
          have HO := Aside0.mk (Kd.S_mono (Kd.S_keep (Kd.S_types HO.out HF.out.rdr (by decide)) (g := w.heap.size) ⟨ht2.size, fun i hi hg _ => ht2.block i hi hg⟩ (fun _ hk => hk.2)) (fun _ hk => hk.1))
          have HF := Aside0.mk (HF.out.reads ht2 hg2)
          have HNW := Aside0.mk HF.out.turn.size
          clear ht2 hg2 hr1
          go_wp2_with fail
          refine (dec_any b _ (by have := HS.out; have := HG.out; omega)).mono ?_
          rintro e w3 ⟨u, rfl, ho3, hb3⟩
          have HF := Aside0.mk (HF.out.below hb3)
          have HU := Aside0.mk ho3
          have HOt := Aside0.mk (Kd.S_mono (Kd.S_below (Kd.S_bound HO.out) hb3) (fun k hk => (hk.2.2.1 : k < _)))
          obtain ⟨A, c, rfl⟩ := Kd.R_slice ho3
          have hz3 := hb3.size
          clear ho3 HO hb3
          generalize w2.heap.size = N at HU HOt hz3 HNW
          cases hc : decC b with
          | none =>
            rw [hc] at HU HD
            have HL : Aside0 (LeftF w lb D gives (w3.alloc (.cells #[.int .u64 0, .slice A ([] : List S36).length c] 25))) := ⟨LeftF.gone (HF.out.below (below_alloc (Below.refl _ _) _)).turn HD.out⟩
            clear hc HU HD
            simp only [told]
            go_wp2_with (go_at_call 31; refine (need_gone _ _).mono ?_; rintro e w4 ⟨he, rfl⟩; unfold gives at he; subst he)
            go_wp2
            exact ⟨rfl, HL.out⟩
          | some r =>
            rw [hc] at HU HD
            clear hc
            simp only [told] at HU ⊢
            obtain ⟨st, ws⟩ := r
            simp only [Option.bind_some] at HD
            simp only at HU ⊢
            have HV := Aside0.mk (heap_alloc_new w3 (.cells #[.int .u64 st, .slice A ws.length c] 25))
            have HF := Aside0.mk (HF.out.below (below_alloc (Below.refl _ _) (.cells #[.int .u64 st, .slice A ws.length c] 25)))
            have HU := Aside0.mk (Kd.R_alloc (Kd.R_elderB HU.out w3.heap.size (Nat.le_refl _)) (.cells #[.int .u64 st, .slice A ws.length c] 25))
            have HO := Aside0.mk (Kd.S_alloc HOt.out (.cells #[.int .u64 st, .slice A ws.length c] 25))
            clear HOt
            have y0 : _ = some (Value.int .u64 st) := (blk_cell HV.out 0).trans rfl
            have y1 : _ = some (Value.slice A ws.length c) := (blk_cell HV.out 1).trans rfl
            obtain ⟨c0, c1, f1⟩ := HF.out.c
            have hok : ∀ k, some k = (Value.slice A ws.length c).ownBlock → k ≠ w3.heap.size ∧ some k ≠ v.ownBlock := fun k hk => ⟨(HU.out.1 k hk.symm).2, fun he => by
              have a1 := (Kd.S_bound HO.out)
              have a2 : k < N := (Kd.S_R HO.out).1 k he.symm
              have a3 := Kd.R_base HU.out k hk.symm
              omega⟩
            have HK := Aside0.mk hok
            have HLN : Aside0 (l.length ≤ 1000000000000) := ⟨by have := HS.out; omega⟩
            have HN3 := Aside0.mk hz3
            clear hok hz3 hp0 hps hpk hpl
            go_wp2_with (first | (go_at_call 31; refine (need_ok _ _).mono ?_; rintro e w4 ⟨rfl, rfl⟩) | ((with_reducible refine gate_builtin (b := .append) (xs := #[.tmp 21, .tmp 23]) rfl ?_); go_loud (at_builtin; refine Kd.S_append k25 (w0 := w3.alloc (.cells #[.int .u64 st, .slice A ws.length c] 25)) w.heap.size rfl (.tmp 21) (.tmp 23) 42 25 (.agg #[(.int .u64 0), (.slice none 0 0)]) 32 rfl Try.underlying42 info25 rfl (by decide) (by omega) v l (⟨st, ws⟩ : S25) [.int .u64 st, .slice A ws.length c] (fun k => k ≠ w3.heap.size) (fun k => some k = (Value.slice A ws.length c).ownBlock) rfl (by first | (go_simp; done) | (go_simp; rfl)) ?aP HK.out ?aF ?aO ?aB ?aS ?aL ?_; (case aP => exact k25_mkM _ _ _ (⟨st, ws⟩ : S25) (Kd.R_lower (Kd.R_mono (Kd.R_tight rfl HU.out) (fun _ h_ => h_)) HNW.out)); (case aF => exact (fun k hk => Nat.ne_of_gt (Nat.lt_of_lt_of_le (by simp) hk))); (case aO => exact Kd.S_mono HO.out (fun k hk => ⟨Nat.ne_of_lt (Nat.lt_of_lt_of_le hk HN3.out), fun he => absurd (Kd.R_base HU.out k he.symm) (Nat.not_le_of_lt hk)⟩)); (case aB => exact Below.refl _ _); (case aS => exact HF.out.turn.size); (case aL => have := HLN.out; omega); clear c0 c1 f1 y0 y1; intro v' w7 ho hb hg hat; obtain ⟨A', c', rfl⟩ := Kd.S_slice ho; have hz := (hb.block _ HF.out.lt.2.1).trans HF.out.lst; have c2 : _ = some v := (blk_cell hz 0).trans rfl; have f2 := blk_frozen hz 0; have HF := Aside0.mk (HF.out.more (v' := .slice A' (l ++ [(⟨st, ws⟩ : S25)]).length c') hb (blk_grown HF.out.rdr hg (fun he => ((Kd.S_R (Kd.S_types HO.out HF.out.rdr (by decide))).1 _ he.symm).2 rfl))); have HO := Aside0.mk ho; have HF7 := Aside0.mk hz; clear ho hb hg hat hz)))
            have hlen : (l ++ [(⟨st, ws⟩ : S25)]).length = l.length + 1 := by rw [List.length_append]; rfl
            rw [hlen] at HF HO
            clear c2 f2
            go_roundg k
            case measure => omega
            case rel => exact ⟨q, _, l ++ [⟨st, ws⟩], ⟨by have := HG.out; have := HP.out; rw [hlen]; omega⟩, HF, ⟨Kd.S_mono (Kd.S_far (Kd.S_types HO.out HF7.out (by decide)) (fun _ hk => hk.2) _) (fun _ _ => trivial)⟩, HD⟩
        · rw [if_neg he1] at hD
          go_wp2_with fail
          refine (blob_gone _ s p _ HF.out.rdr (by have := HS.out; omega) _ _ _ hr1 he1).mono ?_
          rintro e w2 ⟨he, hdr⟩
          unfold gives at he
          subst he
          have HL : Aside0 (LeftF w lb D gives w2) := ⟨LeftF.gone (HF.out.drawn hdr).turn hD⟩
          clear hD hdr hr1 he1
          go_wp2
          exact ⟨rfl, HL.out⟩
      · have hpb : (p == (s.size : Int)) = true := beq_iff_eq.2 (by omega)
        rw [if_neg hlt] at hD
        clear hlt
        go_wp2_with fail
        refine (over_any _ s p _ HF.out.rdr).mono ?_
        rintro e w1 ⟨rfl, hdr⟩
        have HF := Aside0.mk (HF.out.drawn hdr)
        have HO := Aside0.mk (Kd.S_below HO.out hdr.below)
        have HD := Aside0.mk hD
        clear hdr hD
        rw [hpb]
        go_wp2_with fail
        go_end0
        refine ⟨HF.out.turn, ?_⟩
        rw [HD.out]
        exact ⟨rfl, v, HF.out.lst, HO.out⟩
theorem leftF_ok {w w' : World} {lb : Nat} {D : Option (List S25)} {e : Ending} (h : LeftF w lb D e w') : e = .returned (.tuple #[]) ∨ e = gives := by
  obtain ⟨_, h⟩ := h
  cases D with
  | none => exact Or.inr h
  | some r => exact Or.inl h.1
set_option maxRecDepth 100000 in
set_option maxHeartbeats 4000000 in
theorem frm_any (s : ByteArray) (w : World) (hs : s.size ≤ 1000000000000) :
    Calls Try.prog 15 #[.string s] w fun e w' => ∃ v, e = .returned (.tuple #[v, .int .i64 (toldF (frmC s)).2]) ∧ Kd.S k25 25 w' w.heap.size (fun _ => True) v (toldF (frmC s)).1 ∧ Below w.heap.size w w' := by
  obtain ⟨w3, e3⟩ : ∃ w3, w3 = (w.alloc (.cells #[.string s] 9)).alloc (.cells #[.slice none 0 0] 42) := ⟨_, rfl⟩
  have z3 : w3.heap.size = w.heap.size + 2 := by rw [e3]; simp
  have b0 : w3.heap[w.heap.size]? = some (.cells #[.string s] 9 (0, 0)) := by
    rw [e3]; exact (heap_alloc_old _ _ (by simp)).trans (heap_alloc_new _ _)
  have b1 : w3.heap[w.heap.size + 1]? = some (.cells #[.slice none 0 0] 42 (0, 0)) := by
    rw [e3]; simpa using heap_alloc_new (w.alloc (.cells #[.string s] 9)) (.cells #[.slice none 0 0] 42)
  have HB : Aside0 (Below w.heap.size w w3) := ⟨by rw [e3]; exact below_alloc (below_alloc (Below.refl _ _) _) _⟩
  have HI := Aside0.mk (caught_frm #[.pointer (some ⟨w.heap.size, 0, none⟩), .pointer (some ⟨w.heap.size + 1, 0, none⟩)] w3 (LeftF (w3.alloc (.cells #[.bool false] 4)) (w.heap.size + 1) (frun s (s.size + 1) 0 []))
    (innerF (w3.alloc (.cells #[.bool false] 4)) w.heap.size (w.heap.size + 1) s hs ((heap_alloc_old _ _ (by omega)).trans b0) ((heap_alloc_old _ _ (by omega)).trans b1) (by omega))
    (fun e w1 h => ⟨leftF_ok h, h.1.blk (heap_alloc_new _ _) (by omega)⟩))
  have hfd : frmC s = (frun s (s.size + 1) 0 []).bind fun l => if l = [] then none else some l := rfl
  generalize frun s (s.size + 1) 0 [] = D at HI hfd
  have HZ := Aside0.mk z3
  have hmf : ∀ (fn : Fn) (first cap : Array Value) (w : World), (Instr.makeFunc fn first cap).run Try.prog w = .ok (.func fn first cap) w := fun _ _ _ _ => rfl
  have E3 := Aside0.mk e3
  have HFD := Aside0.mk hfd
  clear b0 b1 z3 e3 hfd
  go_enter Try.func15, Try.ntmps15
  go_wp2_with fail
  rw [← E3.out]
  refine HI.out.mono ?_
  rintro e w4 ⟨e0, w1, hL, hor, hT⟩
  have hne : (Ending.returned (.tuple #[])) ≠ gives := fun h => by unfold gives at h; cases h
  obtain ⟨hT1, hL⟩ := hL
  have hz := HZ.out
  have hlt : (w3.alloc (.cells #[.bool false] 4)).heap.size = w3.heap.size + 1 := by simp
  have hB4 : Below w.heap.size w w4 := hT.below (hT1.below (below_alloc HB.out _) (by simp; omega) (by omega)) (Nat.le_trans (by omega) hT1.size) (by omega)
  have HB := Aside0.mk hB4
  clear hB4
  rcases hor with ⟨rfl, rfl⟩ | ⟨rfl, rfl⟩
  · cases hD : D with
    | none => rw [hD] at hL; exact absurd hL hne
    | some r =>
      rw [hD] at hL HFD
      obtain ⟨_, u, hu, ho⟩ := hL
      have r2 := hT.blk hu (by omega)
      have ho : Kd.S k25 25 w4 w.heap.size (fun _ => True) u r :=
        Kd.S_lower (Kd.S_mono (Kd.S_keep (g := w3.heap.size) (Kd.S_types ho (hT1.blk (heap_alloc_new w3 (.cells #[.bool false] 4)) (by omega)) (by decide)) ⟨hT.size, fun i hi hg _ => hT.block i hi hg⟩ (fun _ hk => hk.2)) (fun _ _ => trivial)) (by omega)
      obtain ⟨A, c, rfl⟩ := Kd.S_slice ho
      have HO := Aside0.mk ho
      have c0 : _ = some (Value.slice A r.length c) := (blk_cell r2 0).trans rfl
      clear hD hu ho hT1 hT hz hlt r2
      by_cases hr : r = []
      · subst hr
        have HD : Aside0 (frmC s = none) := ⟨by rw [HFD.out, Option.bind_some, if_pos rfl]⟩
        have hl0 : (([] : List S25).length : Int) = 0 := rfl
        go_wp2_with fail
        go_ret2
        refine ⟨_, by rw [HD.out]; rfl, ?_, HB.out⟩
        rw [HD.out]
        exact Kd.S_nil _ _ _ _ _
      · have HD : Aside0 (frmC s = some r) := ⟨by rw [HFD.out, Option.bind_some, if_neg hr]⟩
        have hl1 : ((r.length : Int) == 0) = false := beq_eq_false_iff_ne.2 (fun h => hr (List.length_eq_zero_iff.1 (by omega)))
        have hl2 : (r.length == 0) = false := beq_eq_false_iff_ne.2 (fun h => hr (List.length_eq_zero_iff.1 h))
        clear hr
        go_wp2_with fail
        go_ret2
        refine ⟨_, by rw [HD.out]; rfl, ?_, HB.out⟩
        rw [HD.out]
        exact HO.out
  · cases hD : D with
    | some r => rw [hD] at hL; exact absurd hL.1.symm hne
    | none =>
      rw [hD] at HFD
      have HD : Aside0 (frmC s = none) := ⟨by rw [HFD.out]; rfl⟩
      clear hD hL hT1 hT hz hlt
      go_wp2_with fail
      go_ret2
      refine ⟨_, by rw [HD.out]; rfl, ?_, HB.out⟩
      rw [HD.out]
      exact Kd.S_nil _ _ _ _ _
end Go.Proofs.Ytlgagjgfenmfeaa.HFrmW
