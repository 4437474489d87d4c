/- DecodeCommit, by the program: what its reader's closure leaves, read or given up; and the call itself. -/
import Derived.Test.YtlgagjgfenmfeaaHDec
import Derived.Test.YtlgagjgfenmfeaaHCaught
import Derived.Deep.LoopGhost
set_option linter.unusedVariables false
set_option linter.unusedSimpArgs false
namespace Go.Proofs.Ytlgagjgfenmfeaa.HDecW
open Go.RowKit Go.Proofs.Ytlgagjgfenmfeaa.PRed Go.Proofs.Ytlgagjgfenmfeaa.HBase Go.Proofs.Ytlgagjgfenmfeaa.HRedL Go.Proofs.Ytlgagjgfenmfeaa.HDec Go.Proofs.Ytlgagjgfenmfeaa.HGive Go.Proofs.Ytlgagjgfenmfeaa.HCaught Go.Proofs.YtlgagjgfenmfeaaW.PrintWords Go.Proofs.YtlgagjgfenmfeaaW.PrintLast Go.Proofs.YtlgagjgfenmfeaaW.PrintMore Go.Proofs.Ytlgagjgfenmfeaa.HCore

/-- What stands while a commit is read: the text's variable in block sb, the commit in cb, the reader in rb; the writes' row is not block nb. -/
structure St (w : World) (sb cb rb nb : Nat) (s : ByteArray) (st p : Int) (u : Value) (l : List S36) (wr : World) : Prop where
  turn : Turn cb w wr
  sbx : wr.heap[sb]? = some (.cells #[.string s] 9 (0, 0))
  com : wr.heap[cb]? = some (.cells #[.int .u64 st, u] 25 (0, 0))
  rdr : wr.heap[rb]? = some (Rd s p)
  own : Kd.R k36 36 wr w.heap.size (fun k => k ≠ nb) u l
  lt : sb < w.heap.size ∧ cb < w.heap.size ∧ w.heap.size ≤ rb
  ne : sb ≠ cb
section
variable {w wr wr' : World} {sb cb rb nb : Nat} {s : ByteArray} {st p q : Int} {u : Value} {l : List S36}
theorem St.below (h : St w sb cb rb nb s st p u l wr) (hb : Below wr.heap.size wr wr') : St w sb cb rb nb s st p u l wr' :=
  ⟨h.turn.trans (Turn.of_below hb), (hb.block _ (blk_lt h.sbx)).trans h.sbx, (hb.block _ (blk_lt h.com)).trans h.com, (hb.block _ (blk_lt h.rdr)).trans h.rdr, Kd.R_below h.own hb, h.lt, h.ne⟩
theorem St.alloc (h : St w sb cb rb nb s st p u l wr) (o : Obj) : St w sb cb rb nb s st p u l (wr.alloc o) := h.below (below_alloc (Below.refl _ _) _)
theorem St.new (h : St w sb cb rb nb s st p u l wr) (o : Obj) : St w sb cb rb wr.heap.size s st p u l (wr.alloc o) := by
  have h2 := h.alloc o
  exact ⟨h2.turn, h2.sbx, h2.com, h2.rdr, Kd.R_alloc (Kd.R_mono (Kd.R_elderB h.own wr.heap.size (Nat.le_refl _)) (fun _ hk => hk.2)) o, h2.lt, h2.ne⟩
theorem St.free (h : St w sb cb rb nb s st p u l wr) : St w sb cb rb rb s st p u l wr := ⟨h.turn, h.sbx, h.com, h.rdr, Kd.R_mono (Kd.R_types h.own h.rdr (by decide)) (fun _ hk => hk.2), h.lt, h.ne⟩
theorem St.drawn (h : St w sb cb rb nb s st p u l wr) (hd : Drawn0 wr wr') : St w sb cb rb nb s st p u l wr' := h.below hd.below
theorem St.reads (h : St w sb cb rb nb s st p u l wr) (ht : Turn rb wr wr') (hr : wr'.heap[rb]? = some (Rd s q)) : St w sb cb rb nb s st q u l wr' := by
  have h1 := h.lt
  refine ⟨⟨ht.os.trans h.turn.os, ht.tape.trans h.turn.tape, ht.output.trans h.turn.output, Nat.le_trans h.turn.size ht.size, fun k hk hg => (ht.block k (Nat.lt_of_lt_of_le hk h.turn.size) (by omega)).trans (h.turn.block k hk hg)⟩, ht.blk h.sbx (by omega), ht.blk h.com (by omega), hr, ?_, h.lt, h.ne⟩
  exact Kd.R_mono (Kd.R_keep (Kd.R_types h.own h.rdr (by decide)) (g := rb) ⟨ht.size, fun i hi hg _ => ht.block i hi hg⟩ (fun _ hk => hk.2)) (fun _ hk => hk.1)
theorem St.stamp (h : St w sb cb rb nb s st p u l wr) (q : Int) : St w sb cb rb nb s q p u l (wr.setCell ⟨cb, 0, none⟩ (.int .u64 q)) := by
  have h1 := h.lt
  exact ⟨h.turn.trans (Turn.set _ _ _ _), blk_far h.sbx h.ne _, (blk_set h.com 0 _).trans rfl, blk_far h.rdr (by show rb ≠ cb; omega) _, Kd.R_mono (Kd.R_far (Kd.R_types h.own h.com (by decide)) (fun _ hk => hk.2) _) (fun _ hk => hk.1), h.lt, h.ne⟩
/-- A write into the block that the row is not. -/
theorem St.far (h : St w sb cb rb nb s st p u l wr) (hn : rb < nb) (j : Nat) (v : Value) : St w sb cb rb nb s st p u l (wr.setCell ⟨nb, j, none⟩ v) := by
  have h1 := h.lt
  exact ⟨⟨h.turn.os, h.turn.tape, h.turn.output, by simpa [World.setCell] using h.turn.size, fun k hk hg => (Below.heap_setCell _ _ _ _ (by show k ≠ nb; omega)).trans (h.turn.block k hk hg)⟩,
    blk_far h.sbx (by show sb ≠ nb; omega) _, blk_far h.com (by show cb ≠ nb; omega) _, blk_far h.rdr (by show rb ≠ nb; omega) _, Kd.R_far h.own (fun _ hk => hk) _, h.lt, h.ne⟩
/-- A write appended and laid back. -/
theorem St.more (h : St w sb cb rb nb s st p u l wr) {u' : Value} {l' : List S36} (hb : Below w.heap.size wr wr') (hg : wr.grownBy wr' u.ownBlock) (ho : Kd.R k36 36 wr' w.heap.size (fun k => k ≠ nb) u' l') :
    St w sb cb rb nb s st p u' l' (wr'.setCell ⟨cb, 1, none⟩ u') := by
  have h1 := h.lt
  have r1 := (hb.block _ h.lt.1).trans h.sbx
  have r2 := (hb.block _ h.lt.2.1).trans h.com
  have r3 : wr'.heap[rb]? = some (Rd s p) := blk_grown h.rdr hg (fun he => (Kd.R_types h.own h.rdr (by decide)).1 rb he.symm |>.2 rfl)
  have ht : Turn cb w wr' := ⟨hb.os.trans h.turn.os, hb.tape.trans h.turn.tape, hb.output.trans h.turn.output, Nat.le_trans h.turn.size hb.size, fun k hk hc => (hb.block k hk).trans (h.turn.block k hk hc)⟩
  exact ⟨ht.trans (Turn.set _ _ _ _), blk_far r1 h.ne _, (blk_set r2 1 _).trans rfl, blk_far r3 (by show rb ≠ cb; omega) _, Kd.R_mono (Kd.R_far (Kd.R_types ho r2 (by decide)) (fun _ hk => hk.2) _) (fun _ hk => hk.1), h.lt, h.ne⟩
theorem St.c (h : St w sb cb rb nb s st p u l wr) : wr.cell? ⟨sb, 0, none⟩ = some (.string s) ∧ wr.cell? ⟨cb, 0, none⟩ = some (.int .u64 st) ∧ wr.cell? ⟨cb, 1, none⟩ = some u ∧ wr.frozen? ⟨cb, 0, none⟩ = false ∧ wr.frozen? ⟨cb, 1, none⟩ = false :=
  ⟨(blk_cell h.sbx 0).trans rfl, (blk_cell h.com 0).trans rfl, (blk_cell h.com 1).trans rfl, blk_frozen h.com 0, blk_frozen h.com 1⟩
end
/-- What the closure leaves. -/
def Left (w : World) (cb : Nat) (D : Option (Int × List S36)) (e : Ending) (w' : World) : Prop :=
  Turn cb w w' ∧ match D with
  | some r => e = .returned (.tuple #[]) ∧ ∃ u, w'.heap[cb]? = some (.cells #[.int .u64 r.1, u] 25 (0, 0)) ∧ Kd.R k36 36 w' w.heap.size (fun _ => True) u r.2
  | none => e = gives
theorem Left.gone {w w' : World} {cb : Nat} {D : Option (Int × List S36)} (h : Turn cb w w') (hD : D = none) : Left w cb D gives w' := by subst hD; exact ⟨h, rfl⟩

set_option maxRecDepth 100000 in
set_option maxHeartbeats 4000000 in
theorem inner (w : World) (sb cb : Nat) (s : ByteArray) (hs : s.size ≤ 4611686018427387904) (hsb : w.heap[sb]? = some (.cells #[.string s] 9 (0, 0))) (hcb : w.heap[cb]? = some (.cells #[.int .u64 0, .slice none 0 0] 25 (0, 0))) (hne : sb ≠ cb) :
    Calls Try.prog 29 #[.pointer (some ⟨sb, 0, none⟩), .pointer (some ⟨cb, 0, none⟩)] w fun e w' => Left w cb (decC s) e w' := by
  have H0 : Aside0 (St w sb cb w.heap.size w.heap.size s 0 0 (.slice none 0 0) [] (w.alloc (.cells #[.string s, .int .i64 0] 69))) :=
    ⟨⟨Turn.of_below (below_alloc (Below.refl _ _) _), (heap_alloc_old _ _ (blk_lt hsb)).trans hsb, (heap_alloc_old _ _ (blk_lt hcb)).trans hcb, heap_alloc_new _ _, Kd.R_nil _ _ _ _ _, ⟨blk_lt hsb, blk_lt hcb, Nat.le_refl _⟩, hne⟩⟩
  have c0 : _ = some (Value.string s) := (blk_cell hsb 0).trans rfl
  have HS := Aside0.mk hs
  clear hsb hcb hs
  go_enter Try.func29, Try.ntmps29
  go_wp2_with fail
  clear c0
  obtain ⟨v1, q1, e1, hr1⟩ : ∃ v q e, ruv s 0 = (v, q, e) := ⟨_, _, _, rfl⟩
  have hD : decC s = if e1 = 0 then (if (ruv s q1).2.2 = 0 ∧ (ruv s q1).1 ≤ 128 then fin s v1 (run s (ruv s q1).1.toNat (ruv s q1).2.1 []) else none) else none := by unfold decC; rw [hr1]
  by_cases he1 : e1 = 0
  · subst he1
    rw [if_pos rfl] at hD
    have HD := Aside0.mk hD
    clear hD
    refine (uvarint_ok _ s 0 _ H0.out.rdr HS.out _ _ hr1).mono ?_
    rintro e w1 ⟨rfl, ht1, hg1⟩
    have HT := Aside0.mk (H0.out.reads ht1 hg1)
    clear ht1 hg1 hr1 H0
    generalize w.heap.size = rb at HT
    obtain ⟨c0, c1, c2, f1, f2⟩ := HT.out.c
    go_wp2_with fail
    clear c0 c1 c2 f1 f2
    have HT := Aside0.mk (HT.out.stamp v1)
    obtain ⟨v2, q2, e2, hr2⟩ : ∃ v q e, ruv s q1 = (v, q, e) := ⟨_, _, _, rfl⟩
    have hD : decC s = if e2 = 0 ∧ v2 ≤ 128 then fin s v1 (run s v2.toNat q2 []) else none := by rw [HD.out, hr2]
    clear HD
    by_cases he2 : e2 = 0
    · subst he2
      have hD : decC s = if v2 ≤ 128 then fin s v1 (run s v2.toNat q2 []) else none := by
        rw [hD]
        by_cases hv : v2 ≤ 128
        · rw [if_pos hv, if_pos ⟨rfl, hv⟩]
        · rw [if_neg hv, if_neg (fun h => hv h.2)]
      have hv2 : 0 ≤ v2 ∧ 0 ≤ q2 := by
        rcases ruv_good s q1 with ⟨g0, g1, g2, g3, g4, g5, g6⟩ | ⟨g0, _⟩
        · rw [hr2] at g2 g4; exact ⟨g2, Int.le_of_lt (Int.lt_of_le_of_lt g1 g4)⟩
        · rw [hr2] at g0; exact absurd rfl g0
      obtain ⟨hv0, hq2⟩ := hv2
      refine (uvarint_ok _ s q1 _ HT.out.rdr HS.out _ _ hr2).mono ?_
      rintro e w2 ⟨rfl, ht2, hg2⟩
      have HT := Aside0.mk (HT.out.reads ht2 hg2)
      clear ht2 hg2 hr2
      by_cases hv : v2 ≤ 128
      · rw [if_pos hv] at hD
        have HD := Aside0.mk hD
        clear hD
        obtain ⟨n, rfl⟩ := Int.eq_ofNat_of_zero_le hv0
        rw [Int.toNat_natCast] at HD
        have hb : decide ((n : Int) ≤ 128) = true := decide_eq_true hv
        have hb' : decide (n ≤ 128) = true := decide_eq_true (by omega)
        have hn : n ≤ 128 := by omega
        clear hv0 hv
        go_wp2_with (go_at_call 31; refine (need_ok _ _).mono ?_; rintro e w3 ⟨rfl, rfl⟩)
        clear hb hb'
        go_loopw [18] (fun v18 wr => ∃ (k : Nat) (p : Int) (u : Value) (l : List S36), k ≤ n ∧ 0 ≤ p ∧ v18 = .int .u64 (k : Int) ∧ l.length = k ∧ Aside0 (St w sb cb rb rb s v1 p u l wr) ∧ Aside0 (decC s = fin s v1 (run s (n - k) p l))) (fun v18 _ => n - (intOf v18).toNat)
        case atStart => exact ⟨0, q2, _, [], by omega, hq2, rfl, rfl, HT, HD⟩
        case round =>
          clear HT HD hq2
          obtain ⟨k, p, u, l, hk, hp, rfl, hl, HT, HD⟩ := hrel
          by_cases hlt : k < n
          · have hb : decide ((k : Int) < (n : Int)) = true := decide_eq_true (by omega)
            have hb' : decide (k < n) = true := decide_eq_true hlt
            obtain ⟨d, hd⟩ : ∃ d, n - k = d + 1 := ⟨n - k - 1, by omega⟩
            have hD := HD.out
            rw [hd] at hD
            simp only [run] at hD
            clear HD
            by_cases hps : p < (s.size : Int)
            · go_wp2_with fail
              refine (byte_ok rb s p _ HT.out.rdr HS.out hp hps).mono ?_
              rintro e w4 ⟨rfl, ht4, hg4⟩
              have HT := Aside0.mk (HT.out.reads ht4 hg4)
              clear ht4 hg4
              obtain ⟨hb0, hb1⟩ := bt_rng s p
              obtain ⟨key, q, e3, hr3⟩ : ∃ v q e, rtext s (p + 1) 1048576 = (v, q, e) := ⟨_, _, _, rfl⟩
              have hR : rdW s p = if e3 = 0 then (if bt s p = 1 then (if (rtext s q 1048576).2.2 = 0 then some (⟨bt s p, key, (rtext s q 1048576).1⟩, (rtext s q 1048576).2.1) else none) else some (⟨bt s p, key, (⟨#[]⟩ : ByteArray)⟩, q)) else none := by unfold rdW; rw [if_pos hps, hr3]
              generalize bt s p = kd at hb0 hb1 hR ⊢
              clear hps
              by_cases he3 : e3 = 0
              · subst he3
                rw [if_pos rfl] at hR
                have HR := Aside0.mk hR
                have HD := Aside0.mk hD
                clear hR hD
                go_wp2_with fail
                refine (blob_ok rb s (p + 1) _ HT.out.rdr HS.out _ _ hr3).mono ?_
                rintro e w5 ⟨rfl, ht5, hg5⟩
                have hq : 0 ≤ q := by
                  rcases rtext_good s (p + 1) 1048576 with ⟨_, a1, a2, _⟩ | a0
                  · rw [hr3] at a2; exact Int.le_of_lt (Int.lt_of_le_of_lt a1 a2)
                  · rw [hr3] at a0; exact absurd rfl a0
                have HT := Aside0.mk (HT.out.reads ht5 hg5)
                clear ht5 hg5 hr3
                have HV := Aside0.mk (heap_alloc_new w5 (.cells #[.int .i64 kd, .string key, .string (⟨#[]⟩ : ByteArray)] 36))
                have hnb : rb < w5.heap.size := blk_lt HT.out.rdr
                have HT := Aside0.mk (HT.out.new (.cells #[.int .i64 kd, .string key, .string (⟨#[]⟩ : ByteArray)] 36))
                obtain ⟨c0, c1, c2, f1, f2⟩ := HT.out.c
                by_cases hk1 : kd = 1
                · have hkb : (kd == 1) = true := beq_iff_eq.2 hk1
                  have hR := HR.out
                  rw [if_pos hk1] at hR
                  clear hk1 HR
                  obtain ⟨dat, q4, e4, hr4⟩ : ∃ v y e, rtext s q 1048576 = (v, y, e) := ⟨_, _, _, rfl⟩
                  rw [hr4] at hR
                  go_wp2_with fail
                  clear c0 c1 c2 f1 f2
                  by_cases he4 : e4 = 0
                  · subst he4
                    rw [if_pos rfl] at hR
                    have HR := Aside0.mk hR
                    clear hR
                    refine (blob_ok rb s q _ HT.out.rdr HS.out _ _ hr4).mono ?_
                    rintro e w6 ⟨rfl, ht6, hg6⟩
                    have hq4 : 0 ≤ q4 := by
                      rcases rtext_good s q 1048576 with ⟨_, a1, a2, _⟩ | a0
                      · rw [hr4] at a2; exact Int.le_of_lt (Int.lt_of_le_of_lt a1 a2)
                      · rw [hr4] at a0; exact absurd rfl a0
                    have HV := Aside0.mk (ht6.blk HV.out (Nat.ne_of_gt hnb))
                    have HT := Aside0.mk (HT.out.reads ht6 hg6)
                    clear ht6 hg6 hr4
                    generalize w5.heap.size = nb at hnb HT HV ⊢
                    have fz := blk_frozen HV.out 2
                    have z2 : _ = some (Value.string (⟨#[]⟩ : ByteArray)) := (blk_cell HV.out 2).trans rfl
                    have HV : Aside0 ((w6.setCell ⟨nb, 2, none⟩ (.string dat)).heap[nb]? = some (.cells #[.int .i64 kd, .string key, .string dat] 36 (0, 0))) := ⟨(blk_set HV.out 2 (.string dat)).trans rfl⟩
                    have HT := Aside0.mk (HT.out.far hnb 2 (.string dat))
                    obtain ⟨c0, c1, c2, f1, f2⟩ := HT.out.c
                    have y0 : _ = some (Value.int .i64 kd) := (blk_cell HV.out 0).trans rfl
                    have y1 : _ = some (Value.string key) := (blk_cell HV.out 1).trans rfl
                    have y2 : _ = some (Value.string dat) := (blk_cell HV.out 2).trans rfl
                    go_wp2_with ((with_reducible refine gate_builtin (b := .append) (xs := #[.tmp 33, .tmp 35]) rfl ?_); go_loud (at_builtin; refine Kd.R_append k36 (w0 := w6.setCell ⟨nb, 2, none⟩ (.string dat)) w.heap.size rfl (.tmp 33) (.tmp 35) 23 36 (.agg #[(.int .i64 0), (.string ⟨#[]⟩), (.string ⟨#[]⟩)]) 40 rfl Try.underlying23 info36 rfl (by decide) (by omega) u l (⟨kd, key, dat⟩ : S36) [.int .i64 kd, .string key, .string dat] (fun k => k ≠ nb) (fun _ => False) rfl (by first | (go_simp; done) | (go_simp; rfl)) ?aP (fun _ hk => hk.elim) ?aF ?aO ?aB ?aS ?aL ?_; (case aP => exact k36_mkM _ _ _ (⟨kd, key, dat⟩ : S36)); (case aF => exact (fun k hk => Nat.ne_of_gt (Nat.lt_of_lt_of_le (blk_lt HV.out) hk))); (case aO => exact HT.out.own); (case aB => exact Below.refl _ _); (case aS => exact Nat.le_trans (Nat.le_of_lt (Nat.lt_of_lt_of_le HT.out.lt.2.1 (Nat.le_refl _))) HT.out.turn.size |> fun _ => HT.out.turn.size); (case aL => rw [hl]; omega); clear c0 c1 c2 f1 f2 y0 y1 y2; intro u' w7 ho hb hg hat; obtain ⟨A', c', rfl⟩ := Kd.R_slice ho; have hz := (hb.block _ HT.out.lt.2.1).trans HT.out.com; have c2 : _ = some u := (blk_cell hz 1).trans rfl; have f2 := blk_frozen hz 1; have HT := Aside0.mk (HT.out.more hb hg ho); clear ho hb hg hat hz))
                    have hlen : (l ++ [(⟨kd, key, dat⟩ : S36)]).length = k + 1 := by rw [List.length_append, hl]; rfl
                    rw [hlen] at HT
                    clear c2 f2
                    go_roundw
                    case rel => exact ⟨k + 1, q4, _, l ++ [⟨kd, key, dat⟩], by omega, hq4, by go_num, hlen, ⟨HT.out.free⟩, ⟨by rw [HD.out, HR.out, show n - (k + 1) = d by omega]; rfl⟩⟩
                    case measure => simp [intOf]; omega
                  · rw [if_neg he4] at hR
                    have hD := HD.out
                    rw [hR] at hD
                    refine (blob_gone rb s q _ HT.out.rdr HS.out _ _ _ hr4 he4).mono ?_
                    rintro e w6 ⟨he, hdr⟩
                    unfold gives at he
                    subst he
                    have HL : Aside0 (Left w cb (decC s) gives w6) := ⟨Left.gone (HT.out.drawn hdr).turn hD⟩
                    clear hD hR hdr hd hr4 he4
                    go_wp2
                    exact ⟨rfl, HL.out⟩
                · have hkb : (kd == 1) = false := beq_eq_false_iff_ne.2 hk1
                  have hR := HR.out
                  rw [if_neg hk1] at hR
                  have HR := Aside0.mk hR
                  clear hk1 hR
                  have y0 : _ = some (Value.int .i64 kd) := (blk_cell HV.out 0).trans rfl
                  have y1 : _ = some (Value.string key) := (blk_cell HV.out 1).trans rfl
                  have y2 : _ = some (Value.string (⟨#[]⟩ : ByteArray)) := (blk_cell HV.out 2).trans rfl
                  go_wp2_with ((with_reducible refine gate_builtin (b := .append) (xs := #[.tmp 33, .tmp 35]) rfl ?_); go_loud (at_builtin; refine Kd.R_append k36 (w0 := w5.alloc (.cells #[.int .i64 kd, .string key, .string (⟨#[]⟩ : ByteArray)] 36)) w.heap.size rfl (.tmp 33) (.tmp 35) 23 36 (.agg #[(.int .i64 0), (.string ⟨#[]⟩), (.string ⟨#[]⟩)]) 40 rfl Try.underlying23 info36 rfl (by decide) (by omega) u l (⟨kd, key, (⟨#[]⟩ : ByteArray)⟩ : S36) [.int .i64 kd, .string key, .string (⟨#[]⟩ : ByteArray)] (fun k => k ≠ w5.heap.size) (fun _ => False) rfl (by first | (go_simp; done) | (go_simp; rfl)) ?aP (fun _ hk => hk.elim) ?aF ?aO ?aB ?aS ?aL ?_; (case aP => exact k36_mkM _ _ _ (⟨kd, key, (⟨#[]⟩ : ByteArray)⟩ : S36)); (case aF => exact (fun k hk => Nat.ne_of_gt (Nat.lt_of_lt_of_le (blk_lt HV.out) hk))); (case aO => exact HT.out.own); (case aB => exact Below.refl _ _); (case aS => exact Nat.le_trans (Nat.le_of_lt (Nat.lt_of_lt_of_le HT.out.lt.2.1 (Nat.le_refl _))) HT.out.turn.size |> fun _ => HT.out.turn.size); (case aL => rw [hl]; omega); clear c0 c1 c2 f1 f2 y0 y1 y2; intro u' w7 ho hb hg hat; obtain ⟨A', c', rfl⟩ := Kd.R_slice ho; have hz := (hb.block _ HT.out.lt.2.1).trans HT.out.com; have c2 : _ = some u := (blk_cell hz 1).trans rfl; have f2 := blk_frozen hz 1; have HT := Aside0.mk (HT.out.more hb hg ho); clear ho hb hg hat hz))
                  have hlen : (l ++ [(⟨kd, key, (⟨#[]⟩ : ByteArray)⟩ : S36)]).length = k + 1 := by rw [List.length_append, hl]; rfl
                  rw [hlen] at HT
                  clear c2 f2
                  go_roundw
                  case rel => exact ⟨k + 1, q, _, l ++ [⟨kd, key, (⟨#[]⟩ : ByteArray)⟩], by omega, hq, by go_num, hlen, ⟨HT.out.free⟩, ⟨by rw [HD.out, HR.out, show n - (k + 1) = d by omega]; rfl⟩⟩
                  case measure => simp [intOf]; omega
              · rw [if_neg he3] at hR
                rw [hR] at hD
                go_wp2_with fail
                refine (blob_gone rb s (p + 1) _ HT.out.rdr HS.out _ _ _ hr3 he3).mono ?_
                rintro e w5 ⟨he, hdr⟩
                unfold gives at he
                subst he
                have HL : Aside0 (Left w cb (decC s) gives w5) := ⟨Left.gone (HT.out.drawn hdr).turn hD⟩
                clear hD hR hdr hd hr3 he3
                go_wp2
                exact ⟨rfl, HL.out⟩
            · have hr : rdW s p = none := by unfold rdW; rw [if_neg hps]
              rw [hr] at hD
              go_wp2_with fail
              refine (byte_gone rb s p _ HT.out.rdr (by omega)).mono ?_
              rintro e w4 ⟨he, hdr⟩
              unfold gives at he
              subst he
              have HL : Aside0 (Left w cb (decC s) gives w4) := ⟨Left.gone (HT.out.drawn hdr).turn hD⟩
              clear hD hr hdr hd
              go_wp2
              exact ⟨rfl, HL.out⟩
          · subst hl
            have hk' : l.length = n := by omega
            have hD := HD.out
            rw [show n - l.length = 0 by omega] at hD
            simp only [run, fin, Option.bind_some] at hD
            clear HD
            have hl9 : l.length ≤ 128 := by omega
            have hb : decide ((l.length : Int) < (n : Int)) = false := decide_eq_false (by omega)
            have hb' : decide (l.length < n) = false := decide_eq_false hlt
            clear hk' hk
            obtain ⟨A, c, rfl, hc, hC⟩ := Kd.R_reads HT.out.own
            have HSn := Aside0.mk (sound_is v1 l (by omega) (2 * l.length + 2) (by omega))
            have HC := Aside0.mk hC
            clear hC
            by_cases hps : p = (s.size : Int)
            · have hpb : (p == (s.size : Int)) = true := beq_iff_eq.2 hps
              have hD2 : decC s = if may v1 l = true then some (v1, l) else none := by
                rw [hD]
                by_cases hm : may v1 l = true
                · rw [if_pos hm, if_pos ⟨hm, hps⟩]
                · rw [if_neg hm, if_neg (fun h => hm h.1)]
              have HD := Aside0.mk hD2
              clear hD hD2 hps
              go_wp2_with fail
              refine (over_any rb s p _ HT.out.rdr).mono ?_
              rintro e w4 ⟨rfl, hdr⟩
              have HT := Aside0.mk (HT.out.drawn hdr)
              have HC := Aside0.mk (Kd.C_below HC.out hdr.below)
              clear hdr
              obtain ⟨c0, c1, c2, f1, f2⟩ := HT.out.c
              rw [hpb]
              go_wp2_with fail
              refine (redo_sound.calls (2 * l.length + 2) v1 A c l (may v1 l) _ HC.out hc HSn.out).mono ?_
              rintro e w5 ⟨rfl, hb5⟩
              clear c0 c1 c2 f1 f2
              have HT := Aside0.mk (HT.out.below hb5)
              have HC := Aside0.mk (Kd.C_below HC.out hb5)
              clear hb5 HSn
              by_cases hm : may v1 l = true
              · have HD : Aside0 (decC s = some (v1, l)) := ⟨by rw [HD.out, if_pos hm]⟩
                rw [hm]
                go_wp2_with (go_at_call 31; refine (need_ok _ _).mono ?_; rintro e w6 ⟨rfl, rfl⟩)
                go_end0
                refine ⟨HT.out.turn, ?_⟩
                rw [HD.out]
                exact ⟨rfl, _, HT.out.com, Kd.R_mono HT.out.own (fun _ _ => trivial)⟩
              · have HD : Aside0 (decC s = none) := ⟨by rw [HD.out, if_neg hm]⟩
                rw [Bool.not_eq_true] at hm
                rw [hm]
                go_wp2_with (go_at_call 31; refine (need_gone _ _).mono ?_; rintro e w6 ⟨he, rfl⟩; unfold gives at he; subst he)
                go_wp2
                exact ⟨rfl, Left.gone HT.out.turn HD.out⟩
            · have hpb : (p == (s.size : Int)) = false := beq_eq_false_iff_ne.2 hps
              have HD : Aside0 (decC s = none) := ⟨by rw [hD, if_neg (fun h => hps h.2)]⟩
              clear hD hps
              go_wp2_with fail
              refine (over_any rb s p _ HT.out.rdr).mono ?_
              rintro e w4 ⟨rfl, hdr⟩
              have HT := Aside0.mk (HT.out.drawn hdr)
              clear hdr
              rw [hpb]
              go_wp2_with (go_at_call 31; refine (need_gone _ _).mono ?_; rintro e w5 ⟨he, rfl⟩; unfold gives at he; subst he)
              go_wp2
              exact ⟨rfl, Left.gone HT.out.turn HD.out⟩
      · rw [if_neg hv] at hD
        have HD := Aside0.mk hD
        have hb : decide (v2 ≤ 128) = false := decide_eq_false hv
        clear hD hv
        go_wp2_with (go_at_call 31; refine (need_gone _ _).mono ?_; rintro e w3 ⟨he, rfl⟩; unfold gives at he; subst he)
        go_wp2
        exact ⟨rfl, Left.gone HT.out.turn HD.out⟩
    · rw [if_neg (fun h => he2 h.1)] at hD
      refine (uvarint_gone _ s q1 _ HT.out.rdr HS.out _ _ _ hr2 he2).mono ?_
      rintro e w2 ⟨he, hd⟩
      unfold gives at he
      subst he
      have HL : Aside0 (Left w cb (decC s) gives w2) := ⟨Left.gone (HT.out.drawn hd).turn hD⟩
      clear he2 hD hd hr2
      go_wp2
      exact ⟨rfl, HL.out⟩
  · rw [if_neg he1] at hD
    refine (uvarint_gone _ s 0 _ H0.out.rdr HS.out _ _ _ hr1 he1).mono ?_
    rintro e w1 ⟨he, hd⟩
    unfold gives at he
    subst he
    go_wp2
    exact ⟨rfl, Left.gone (H0.out.drawn hd).turn hD⟩

/-- What stands behind the closure: the commit's block, and whose the writes are. -/
theorem left_ok {w w' : World} {cb : Nat} {D : Option (Int × List S36)} {e : Ending} (h : Left w cb D e w') : e = .returned (.tuple #[]) ∨ e = gives := by
  obtain ⟨_, h⟩ := h
  cases D with
  | none => exact Or.inr h
  | some r => exact Or.inl h.1
set_option maxRecDepth 100000 in
set_option maxHeartbeats 4000000 in
theorem dec_any (s : ByteArray) (w : World) (hs : s.size ≤ 4611686018427387904) :
    Calls Try.prog 13 #[.string s] w fun e w' => ∃ u, e = .returned (.tuple #[.agg #[.int .u64 (told (decC s)).1, u], .int .i64 (told (decC s)).2.2]) ∧ Kd.R k36 36 w' w.heap.size (fun _ => True) u (told (decC s)).2.1 ∧ Below w.heap.size w w' := by
  obtain ⟨w3, e3⟩ : ∃ w3, w3 = ((w.alloc (.cells #[.string s] 9)).alloc (.cells #[.int .u64 0, .slice none 0 0] 25)).alloc (.cells #[.int .u64 0, .slice none 0 0] 25) := ⟨_, rfl⟩
  have z3 : w3.heap.size = w.heap.size + 3 := by rw [e3]; simp
  have b0 : w3.heap[w.heap.size]? = some (.cells #[.string s] 9 (0, 0)) := by
    rw [e3]; exact (heap_alloc_old _ _ (by simp; omega)).trans ((heap_alloc_old _ _ (by simp)).trans (heap_alloc_new _ _))
  have b1 : w3.heap[w.heap.size + 1]? = some (.cells #[.int .u64 0, .slice none 0 0] 25 (0, 0)) := by
    rw [e3]; exact (heap_alloc_old _ _ (by simp)).trans (by simpa using heap_alloc_new (w.alloc (.cells #[.string s] 9)) (.cells #[.int .u64 0, .slice none 0 0] 25))
  have b2 : w3.heap[w.heap.size + 2]? = some (.cells #[.int .u64 0, .slice none 0 0] 25 (0, 0)) := by
    rw [e3]; simpa using heap_alloc_new ((w.alloc (.cells #[.string s] 9)).alloc (.cells #[.int .u64 0, .slice none 0 0] 25)) (.cells #[.int .u64 0, .slice none 0 0] 25)
  have HB : Aside0 (Below w.heap.size w w3) := ⟨by rw [e3]; exact below_alloc (below_alloc (below_alloc (Below.refl _ _) _) _) _⟩
  have HI := Aside0.mk (caught_dec #[.pointer (some ⟨w.heap.size, 0, none⟩), .pointer (some ⟨w.heap.size + 2, 0, none⟩)] w3 (Left (w3.alloc (.cells #[.bool false] 4)) (w.heap.size + 2) (decC s))
    (inner (w3.alloc (.cells #[.bool false] 4)) w.heap.size (w.heap.size + 2) s hs ((heap_alloc_old _ _ (by omega)).trans b0) ((heap_alloc_old _ _ (by omega)).trans b2) (by omega))
    (fun e w1 h => ⟨left_ok h, h.1.blk (heap_alloc_new _ _) (by omega)⟩))
  have H1 := Aside0.mk b1
  have HZ := Aside0.mk z3
  have hmf : ∀ (fn : Fn) (first cap : Array Value) (w : World), (Instr.makeFunc fn first cap).run Try.prog w = .ok (.func fn first cap) w := fun _ _ _ _ => rfl
  have E3 := Aside0.mk e3
  clear b0 b1 b2 z3 e3
  go_enter Try.func13, Try.ntmps13
  go_wp2_with fail
  rw [← E3.out]
  refine HI.out.mono ?_
  rintro e w4 ⟨e0, w1, hL, hor, hT⟩
  have hne : (Ending.returned (.tuple #[])) ≠ gives := fun h => by unfold gives at h; cases h
  obtain ⟨hT1, hL⟩ := hL
  have hz := HZ.out
  have hlt : (w3.alloc (.cells #[.bool false] 4)).heap.size = w3.heap.size + 1 := by simp
  have r1 : w4.heap[w.heap.size + 1]? = some (.cells #[.int .u64 0, .slice none 0 0] 25 (0, 0)) := hT.blk (hT1.blk ((heap_alloc_old _ _ (by omega)).trans H1.out) (by omega)) (by omega)
  have hB4 : Below w.heap.size w w4 := hT.below (hT1.below (below_alloc HB.out _) (by simp; omega) (by omega)) (Nat.le_trans (by omega) hT1.size) (by omega)
  have HB := Aside0.mk hB4
  have HR1 := Aside0.mk r1
  clear hB4 r1
  rcases hor with ⟨rfl, rfl⟩ | ⟨rfl, rfl⟩
  · cases hD : decC s with
    | none => rw [hD] at hL; exact absurd hL hne
    | some r =>
      rw [hD] at hL
      obtain ⟨_, u, hu, ho⟩ := hL
      have HD := Aside0.mk hD
      have r2 := hT.blk hu (by omega)
      have ho : Kd.R k36 36 w4 w.heap.size (fun _ => True) u r.2 :=
        Kd.R_lower (Kd.R_mono (Kd.R_keep (g := w3.heap.size) (Kd.R_types ho (hT1.blk (heap_alloc_new w3 (.cells #[.bool false] 4)) (by omega)) (by decide)) ⟨hT.size, fun i hi hg _ => hT.block i hi hg⟩ (fun _ hk => hk.2)) (fun _ _ => trivial)) (by omega)
      obtain ⟨A, c, rfl⟩ := Kd.R_slice ho
      have HO := Aside0.mk ho
      have HR2 := Aside0.mk r2
      clear hD hu ho hT1 hT hz hlt
      have c0 : _ = some (Value.int .u64 r.1) := (blk_cell HR2.out 0).trans rfl
      have c1 : _ = some (Value.slice A r.2.length c) := (blk_cell HR2.out 1).trans rfl
      have d0 : _ = some (Value.int .u64 0) := (blk_cell HR1.out 0).trans rfl
      have d1 : _ = some (Value.slice none 0 0) := (blk_cell HR1.out 1).trans rfl
      have f0 := blk_frozen HR1.out 0
      have f1 := blk_frozen HR1.out 1
      clear r2
      go_wp2_with fail
      refine bodyPost_ret (v := .tuple #[.agg #[.int .u64 r.1, .slice A r.2.length c], .int .i64 0]) (results_ct (fn := Try.f13) rfl _ _ (w.heap.size + 1) 25 #[.int .u64 r.1, .slice A r.2.length c] (0, 0) _ rfl (by exact (blk_set ((blk_set HR1.out 0 (.int .u64 r.1)).trans rfl) 1 (.slice A r.2.length c)).trans rfl) Try.underlying25 rfl (by kernel_rfl)) rfl ?_
      refine ⟨_, by rw [HD.out]; rfl, ?_, (HB.out.setCell (p := ⟨w.heap.size + 1, 0, none⟩) (Nat.le_succ _) _).setCell (p := ⟨w.heap.size + 1, 1, none⟩) (Nat.le_succ _) _⟩
      rw [HD.out]
      exact Kd.R_mono (Kd.R_far (p := ⟨w.heap.size + 1, 1, none⟩) (Kd.R_far (p := ⟨w.heap.size + 1, 0, none⟩) (Kd.R_types HO.out HR1.out (by decide)) (fun _ hk => hk.2) _) (fun _ hk => hk.2) _) (fun _ _ => trivial)
  · cases hD : decC s with
    | some r => rw [hD] at hL; exact absurd hL.1.symm hne
    | none =>
      have HD := Aside0.mk hD
      have d0 : _ = some (Value.int .u64 0) := (blk_cell HR1.out 0).trans rfl
      have d1 : _ = some (Value.slice none 0 0) := (blk_cell HR1.out 1).trans rfl
      have f0 := blk_frozen HR1.out 0
      have f1 := blk_frozen HR1.out 1
      clear hD hL hT1 hT hz hlt
      go_wp2_with fail
      refine bodyPost_ret (v := .tuple #[.agg #[.int .u64 0, .slice none 0 0], .int .i64 112]) (results_ct (fn := Try.f13) rfl _ _ (w.heap.size + 1) 25 #[.int .u64 0, .slice none 0 0] (0, 0) _ rfl (by exact (blk_set ((blk_set HR1.out 0 (.int .u64 0)).trans rfl) 1 (.slice none 0 0)).trans rfl) Try.underlying25 rfl (by kernel_rfl)) rfl ?_
      refine ⟨_, by rw [HD.out]; rfl, ?_, (HB.out.setCell (p := ⟨w.heap.size + 1, 0, none⟩) (Nat.le_succ _) _).setCell (p := ⟨w.heap.size + 1, 1, none⟩) (Nat.le_succ _) _⟩
      rw [HD.out]
      exact Kd.R_nil _ _ _ _ _
end Go.Proofs.Ytlgagjgfenmfeaa.HDecW
