/- ReadRow, by the program: what its closure leaves, and the call itself. -/
import Derived.Test.YtbekgkikgcmmaaaDoorHBitC
set_option linter.unusedVariables false
set_option linter.unusedSimpArgs false
namespace Go.Proofs.YtbekgkikgcmmaaaDoor.HBitW
open Go.RowKit Go.Proofs.YtbekgkikgcmmaaaDoor.PBit Go.Proofs.YtbekgkikgcmmaaaDoor.HBase Go.Proofs.YtbekgkikgcmmaaaDoorW.PrintWords Go.Proofs.YtbekgkikgcmmaaaDoorW.PrintLast Go.Proofs.YtbekgkikgcmmaaaDoorW.PrintMore Go.Proofs.YtbekgkikgcmmaaaDoor.HCore Go.Proofs.YtbekgkikgcmmaaaDoor.HBitR Go.Proofs.YtbekgkikgcmmaaaDoor.HBitV Go.Proofs.YtbekgkikgcmmaaaDoor.HBitG Go.Proofs.YtbekgkikgcmmaaaDoor.HBitK Go.Proofs.YtbekgkikgcmmaaaDoor.HBitC

/-- The four kinds of a byte. -/
def quad (b : Int) : List Int := [b % 4, b / 4 % 4, b / 16 % 4, b / 64]
def kl (s : ByteArray) (p : Int) : Nat → List Int
  | 0 => []
  | i + 1 => kl s p i ++ quad (bt s (p + i))
theorem quad_bits (b : Int) (h : 0 ≤ b ∧ b < 256) : Go.bits .and .u8 b 3 = b % 4 ∧ Go.bits .and .u8 (b / 4) 3 = b / 4 % 4 ∧ Go.bits .and .u8 (b / 16) 3 = b / 16 % 4 := by
  have key : ∀ m : Nat, m < 256 → Go.bits .and .u8 (m : Int) 3 = (m : Int) % 4 := by decide +kernel
  have key' : ∀ x : Int, 0 ≤ x → x < 256 → Go.bits .and .u8 x 3 = x % 4 := fun x h0 h1 => by
    obtain ⟨n, rfl⟩ := Int.eq_ofNat_of_zero_le h0
    exact key n (by omega)
  exact ⟨key' b h.1 h.2, key' _ (by omega) (by omega), key' _ (by omega) (by omega)⟩
theorem kl_len (s : ByteArray) (p : Int) : ∀ i, (kl s p i).length = 4 * i
  | 0 => rfl
  | i + 1 => by simp only [kl]; rw [List.length_append, kl_len s p i]; simp [quad]; omega
/-- The columns of a row. -/
def cols (s : ByteArray) : List Int → Int → List S33 → List S33 × Int
  | [], p, l => if p < (s.size : Int) then ([], 16) else (l, 0)
  | k :: ks, p, l => if (rdC s p k).2.2 = 0 then cols s ks (rdC s p k).2.1 (l ++ [(rdC s p k).1]) else ([], (rdC s p k).2.2)
/-- The values of a row, or the fault. -/
def rrow (s : ByteArray) : List S33 × Int :=
  if ¬ 0 < (s.size : Int) then ([], 11) else
  if bt s 0 > 16 then ([], 18) else
  if (s.size : Int) < 1 + (bt s 0 + 3) / 4 then ([], 11) else
  if ((kl s 1 ((bt s 0 + 3) / 4).toNat).drop (bt s 0).toNat).all (fun k => k == 0) = false then ([], 14) else
  cols s ((kl s 1 ((bt s 0 + 3) / 4).toNat).take (bt s 0).toNat) ((1 : Int) + (bt s 0 + 3) / 4) []
/-- What stands while the kinds are read. -/
structure Js (w : World) (sb rb : Nat) (s : ByteArray) (p : Int) (u : Value) (l : List Int) (wr : World) : Prop where
  turn : Turn rb w wr
  sbx : wr.heap[sb]? = some (.cells #[.string s] 9 (0, 0))
  rdr : wr.heap[rb]? = some (Rd s p)
  own : Kd.R (Kd.int .u8) 5 wr w.heap.size (fun _ => True) u l
  lt : sb < w.heap.size ∧ rb < w.heap.size
  ne : sb ≠ rb
section
variable {w wr wr' : World} {sb rb : Nat} {s : ByteArray} {p q : Int} {u : Value} {l : List Int}
theorem Js.below (h : Js w sb rb s p u l wr) (hb : Below wr.heap.size wr wr') : Js w sb rb s p u l wr' :=
  ⟨h.turn.trans (Turn.of_below hb), (hb.block _ (blk_lt h.sbx)).trans h.sbx, (hb.block _ (blk_lt h.rdr)).trans h.rdr, Kd.R_below h.own hb, h.lt, h.ne⟩
theorem Js.drawn (h : Js w sb rb s p u l wr) (hd : Drawn0 wr wr') : Js w sb rb s p u l wr' := h.below hd.below
theorem Js.reads (h : Js w sb rb s p u l wr) (ht : Turn rb wr wr') (hr : wr'.heap[rb]? = some (Rd s q)) : Js w sb rb s q u l wr' :=
  ⟨h.turn.trans ht, ht.blk h.sbx h.ne, hr, Kd.R_mono (Kd.R_keep (Kd.R_types h.own h.rdr (by decide)) (g := rb) ⟨ht.size, fun i hi hg _ => ht.block i hi hg⟩ (fun _ hk => hk.2)) (fun _ _ => trivial), h.lt, h.ne⟩
theorem Js.more (h : Js w sb rb s p u l wr) {u' : Value} {l' : List Int} (hb : Below w.heap.size wr wr') (ho : Kd.R (Kd.int .u8) 5 wr' w.heap.size (fun _ => True) u' l') : Js w sb rb s p u' l' wr' :=
  ⟨⟨hb.os.trans h.turn.os, hb.tape.trans h.turn.tape, hb.output.trans h.turn.output, Nat.le_trans h.turn.size hb.size, fun k hk hc => (hb.block k hk).trans (h.turn.block k hk hc)⟩,
    (hb.block _ h.lt.1).trans h.sbx, (hb.block _ h.lt.2).trans h.rdr, ho, h.lt, h.ne⟩
theorem Js.c (h : Js w sb rb s p u l wr) : wr.cell? ⟨sb, 0, none⟩ = some (.string s) ∧ wr.cell? ⟨rb, 1, none⟩ = some (.int .i64 p) :=
  ⟨(blk_cell h.sbx 0).trans rfl, (blk_cell h.rdr 1).trans rfl⟩
end
theorem kl_rng (s : ByteArray) (p : Int) : ∀ i, ∀ x ∈ kl s p i, 0 ≤ x ∧ x ≤ 3
  | 0, x, h => by simp [kl] at h
  | i + 1, x, h => by
    simp only [kl, List.mem_append] at h
    rcases h with h | h
    · exact kl_rng s p i x h
    · have hb := bt_rng s (p + i)
      simp only [quad, List.mem_cons, List.not_mem_nil, or_false] at h
      rcases h with rfl | rfl | rfl | rfl <;> omega
/-- What stands while the columns are read: besides, the kinds. -/
structure Ms (w : World) (sb rb : Nat) (s : ByteArray) (p : Int) (z : Value) (ks : List Int) (u : Value) (l : List S33) (wr : World) : Prop where
  vs : Ks w sb rb s p u l wr
  kin : Kd.R (Kd.int .u8) 5 wr w.heap.size (fun _ => True) z ks
section
variable {w wr wr' : World} {sb rb : Nat} {s : ByteArray} {p q : Int} {z u : Value} {ks : List Int} {l : List S33}
theorem Ms.below (h : Ms w sb rb s p z ks u l wr) (hb : Below wr.heap.size wr wr') : Ms w sb rb s p z ks u l wr' := ⟨h.vs.below hb, Kd.R_below h.kin hb⟩
theorem Ms.reads (h : Ms w sb rb s p z ks u l wr) (ht : Turn rb wr wr') (hr : wr'.heap[rb]? = some (Rd s q)) : Ms w sb rb s q z ks u l wr' :=
  ⟨h.vs.reads ht hr, Kd.R_mono (Kd.R_keep (Kd.R_types h.kin h.vs.rdr (by decide)) (g := rb) ⟨ht.size, fun i hi hg _ => ht.block i hi hg⟩ (fun _ hk => hk.2)) (fun _ _ => trivial)⟩
theorem Ms.more (h : Ms w sb rb s p z ks u l wr) {u' : Value} {l' : List S33} (hb : Below w.heap.size wr wr') (hg : wr.grownBy wr' u.ownBlock) (ho : Kd.R k33 33 wr' w.heap.size (fun _ => True) u' l') : Ms w sb rb s p z ks u' l' wr' :=
  ⟨h.vs.more hb ho, Kd.R_over h.kin h.vs.own (by decide) hg⟩
end
theorem rdC_pos (s : ByteArray) (p k : Int) (hp : 0 ≤ p) (h : (rdC s p k).2.2 = 0) : 0 ≤ (rdC s p k).2.1 := by
  have hg := ruv_good s p
  unfold rdC at h ⊢
  by_cases h0 : k = 0
  · rw [if_pos h0]; exact hp
  · rw [if_neg h0] at h ⊢
    by_cases h1 : k = 1
    · rw [if_pos h1] at h ⊢
      by_cases h2 : p < (s.size : Int)
      · rw [if_pos h2] at h ⊢
        by_cases h3 : bt s p ≤ 1
        · rw [if_pos h3]; show 0 ≤ p + 1; omega
        · rw [if_neg h3] at h; exact absurd h (by simp)
      · rw [if_neg h2] at h; exact absurd h (by simp)
    · rw [if_neg h1] at h ⊢
      by_cases h2 : k = 2
      · rw [if_pos h2]
        show 0 ≤ (rsv s p).2.1
        unfold rsv
        split <;> simp only <;> omega
      · rw [if_neg h2]
        show 0 ≤ (rtext s p 4096).2.1
        unfold rtext
        split
        · split
          · exact hp
          · split
            · exact hp
            · simp only; omega
        · exact hp
theorem back_hi (k : Int) (hk : 0 ≤ k ∧ k ≤ 3) (g : Nat) (s : ByteArray) (p : Int) (hs : s.size ≤ 4611686018427387904) (hp : 0 ≤ p) (x : S33) (q e0 : Int) (hr : rdC s p k = (x, q, e0)) (w : World) (h : w.heap[g]? = some (Rd s p)) :
    Calls Tryd.prog (if k = 0 then 46 else if k = 1 then 49 else if k = 2 then 54 else 58) #[.pointer (some ⟨g, 0, none⟩)] w fun e w' => LeftV g s w x q e0 e w' := by
  have h4 : k = 0 ∨ k = 1 ∨ k = 2 ∨ k = 3 := by omega
  rcases h4 with rfl | rfl | rfl | rfl
  · cases hr
    exact back0 g s p w h
  · refine back1 g s p w x q e0 h (fun w h => ?_)
    change (if p < (s.size : Int) then (if bt s p ≤ 1 then ((⟨1, bt s p, (⟨#[]⟩ : ByteArray)⟩ : S33), p + 1, (0 : Int)) else (z33, 0, 14)) else (z33, 0, 11)) = (x, q, e0) at hr
    by_cases h1 : p < (s.size : Int)
    · rw [if_pos h1] at hr
      by_cases h2 : bt s p ≤ 1
      · rw [if_pos h2] at hr
        cases hr
        exact (truth_ok g s p w h hs hp h1 h2).mono fun e w' hh => ⟨hh.2.1, Or.inl ⟨rfl, hh.1, hh.2.2⟩⟩
      · rw [if_neg h2] at hr
        cases hr
        exact (truth_gone g s p w h hs hp (fun hh => h2 hh.2)).mono fun e w' hh => ⟨hh.2, Or.inr ⟨by decide, by rw [hh.1, if_pos h1]⟩⟩
    · rw [if_neg h1] at hr
      cases hr
      exact (truth_gone g s p w h hs hp (fun hh => h1 hh.1)).mono fun e w' hh => ⟨hh.2, Or.inr ⟨by decide, by rw [hh.1, if_neg h1]⟩⟩
  · refine back2 g s p w x q e0 h (fun w h => ?_)
    obtain ⟨v, q1, e1, hv⟩ : ∃ v q e, rsv s p = (v, q, e) := ⟨_, _, _, rfl⟩
    change ((⟨2, (rsv s p).1, (⟨#[]⟩ : ByteArray)⟩ : S33), (rsv s p).2) = (x, q, e0) at hr
    rw [hv] at hr
    cases hr
    exact number_any g s p w h hs v q e0 hv
  · refine back3 g s p w x q e0 h (fun w h => ?_)
    obtain ⟨v, q1, e1, hv⟩ : ∃ v q e, rtext s p 4096 = (v, q, e) := ⟨_, _, _, rfl⟩
    change ((⟨3, 0, (rtext s p 4096).1⟩ : S33), (rtext s p 4096).2) = (x, q, e0) at hr
    rw [hv] at hr
    cases hr
    exact text_any g s p w h hs v q e0 hv
theorem tinfo : ∃ i, Tryd.prog.info? 5 = some i ∧ i.size = 1 := by
  have h := info5
  cases hc : Tryd.prog.info? 5 with
  | none => rw [hc] at h; cases h
  | some i =>
    rw [hc] at h
    simp only [Option.map_some, Option.some.injEq, Prod.mk.injEq] at h
    exact ⟨i, rfl, h.2.1⟩
set_option maxRecDepth 100000 in
set_option maxHeartbeats 4000000 in
theorem innerR (w : World) (sb rb : Nat) (s : ByteArray) (hs : s.size ≤ 4611686018427387904) (hsb : w.heap[sb]? = some (.cells #[.string s] 9 (0, 0))) (hrb : w.heap[rb]? = some (Rd s 0)) (hne : sb ≠ rb) :
    Calls Tryd.prog 40 #[.pointer (some ⟨rb, 0, none⟩), .pointer (some ⟨sb, 0, none⟩)] w fun e w' => LeftK w rb (rrow s) e w' := by
  have HV : Aside0 (Js w sb rb s 0 (.slice none 0 0) [] w) := ⟨⟨Turn.refl _ _, hsb, hrb, Kd.R_nil _ _ _ _ _, ⟨blk_lt hsb, blk_lt hrb⟩, hne⟩⟩
  have HS := Aside0.mk hs
  obtain ⟨D, hD⟩ : ∃ D, D = rrow s := ⟨_, rfl⟩
  rw [← hD]
  unfold rrow at hD
  clear hsb hrb hne
  by_cases hlt : 0 < (s.size : Int)
  · rw [if_neg (fun h => h hlt)] at hD
    have hbt := bt_rng s 0
    by_cases h16 : bt s 0 > 16
    · rw [if_pos h16] at hD
      have HL : ∀ w', Turn rb w w' → LeftK w rb D (gives 18) w' := fun w' ht => ⟨ht, Or.inr ⟨by rw [hD]; decide, by rw [hD]⟩⟩
      have HL := Aside0.mk HL
      clear hD
      go_enter Tryd.func40, Tryd.ntmps40
      go_wp2_with fail
      refine (next_ok rb s 0 _ HV.out.rdr hs (by decide) hlt).mono ?_
      rintro e w1 ⟨rfl, ht, hg⟩
      have HV := Aside0.mk (HV.out.reads ht hg)
      clear ht hg hlt
      generalize bt s 0 = c at h16 hbt ⊢
      have hw : IntKind.i64.wrap c = c := IntWalk.i64_in _ (by omega)
      have hb : decide (16 < c) = true := decide_eq_true h16
      go_wp2_with (go_at_call 37; refine (fail_gone _ _ _).mono ?_; rintro e w3 ⟨he, rfl⟩; unfold gives at he; subst he)
      go_wp2
      exact ⟨rfl, HL.out _ HV.out.turn⟩
    · rw [if_neg h16] at hD
      have HD := Aside0.mk hD
      clear hD
      go_enter Tryd.func40, Tryd.ntmps40
      go_wp2_with fail
      refine (next_ok rb s 0 _ HV.out.rdr hs (by decide) hlt).mono ?_
      rintro e w1 ⟨rfl, ht, hg⟩
      have HV := Aside0.mk (HV.out.reads ht hg)
      have HLt := Aside0.mk hlt
      clear ht hg hlt
      obtain ⟨c, hc⟩ : ∃ c : Nat, bt s 0 = (c : Int) := ⟨(bt s 0).toNat, by omega⟩
      rw [hc] at HD h16 hbt ⊢
      have hw : IntKind.i64.wrap (c : Int) = (c : Int) := IntWalk.i64_in _ (by omega)
      have hw3 : IntKind.i64.wrap ((c : Int) + 3) = ((c + 3 : Nat) : Int) := by rw [IntWalk.i64_in _ (by omega)]; omega
      have hb : decide (16 < (c : Int)) = false := decide_eq_false (by omega)
      have hb' : decide (16 < c) = false := decide_eq_false (by omega)
      go_wp2_with (go_at_call 37; refine (fail_ok _ _ _).mono ?_; rintro e w3 ⟨rfl, rfl⟩)
      obtain ⟨n, hn⟩ : ∃ n : Nat, ((c : Int) + 3) / 4 = (n : Int) := ⟨(((c : Int) + 3) / 4).toNat, by omega⟩
      rw [hn] at HD
      rw [hn]
      have HN : Aside0 (c ≤ 16 ∧ n ≤ 4 ∧ c ≤ 4 * n) := ⟨by omega⟩
      have HP : Aside0 (1 ≤ (s.size : Int)) := ⟨by have := blk_lt HV.out.rdr; have := HLt.out; omega⟩
      have hnn : n ≤ 4 := HN.out.2.1
      clear hb hb' hw hw3 h16 hbt hn
      go_loopw [4, 19] (fun v4 v19 wr => ∃ i : Nat, i ≤ n ∧ v19 = .int .i64 (i : Int) ∧ Aside0 (1 + (i : Int) ≤ (s.size : Int)) ∧ Aside0 (Js w sb rb s (1 + i) v4 (kl s 1 i) wr)) (fun _ v19 _ => n - (intOf v19).toNat)
      case atStart => exact ⟨0, by omega, rfl, ⟨by have := HP.out; omega⟩, HV⟩
      case round =>
        clear HV
        obtain ⟨i, hi, rfl, HQ, HV⟩ := hrel
        obtain ⟨A, ca, hv⟩ := Kd.R_slice HV.out.own
        subst hv
        by_cases hlt : i < n
        · have hb : decide ((i : Int) < (n : Int)) = true := decide_eq_true (by omega)
          have hb' : decide (i < n) = true := decide_eq_true hlt
          by_cases hps : 1 + (i : Int) < (s.size : Int)
          · go_wp2_with fail
            refine (next_ok rb s (1 + i) _ HV.out.rdr HS.out (by omega) hps).mono ?_
            rintro e w4 ⟨rfl, ht, hg⟩
            have HV := Aside0.mk (HV.out.reads ht hg)
            have hbt := bt_rng s (1 + i)
            have hkl : kl s 1 (i + 1) = kl s 1 i ++ quad (bt s (1 + i)) := rfl
            have HKL := Aside0.mk hkl
            clear ht hg hkl hb hb'
            generalize bt s (1 + i) = b at HKL hbt ⊢
            obtain ⟨q1, q2, q3⟩ := quad_bits b (by omega)
            clear hbt
            go_wp2_with (first | ((with_reducible refine gate_dst (N := 33) rfl ?_); go_loud (refine Kd.R_lit (Kd.int .u8) _ 5 ?hg (N := 33) ?hd (xs := quad b) (inner := [.int .u8 (b % 4), .int .u8 (b / 4 % 4), .int .u8 (b / 16 % 4), .int .u8 (b / 64)]) (ok := fun _ => True) (okp := fun _ => True) ?hr ?hp (fun _ hk => hk) trivial (Below.refl _ _) (Nat.le_refl _) (by simp [quad]) ?_; (case hd => rfl); (case hg => rfl); (case hr => first | (go_simp; done) | (go_simp; rfl)); (case hp => exact (Reps.one (show Kd.M (Kd.int .u8) _ _ _ (b % 4) [.int .u8 (b % 4)] from rfl) (Reps.one (show Kd.M (Kd.int .u8) _ _ _ (b / 4 % 4) [.int .u8 (b / 4 % 4)] from rfl) (Reps.one (show Kd.M (Kd.int .u8) _ _ _ (b / 16 % 4) [.int .u8 (b / 16 % 4)] from rfl) (Reps.one (show Kd.M (Kd.int .u8) _ _ _ (b / 64) [.int .u8 (b / 64)] from rfl) (Reps.none _ _)))))); intro v5 w5 ho5 hb5 hg5 hn5; obtain ⟨A5, c5, e5⟩ := Kd.R_slice ho5; subst e5; have HO := Aside0.mk (Kd.R_mono (Kd.R_elder' HV.out.own (Kd.R_base ho5) hb5) (ok' := fun k_ => some k_ ≠ (.slice A5 (quad b).length c5 : Value).ownBlock) (fun _ hk => hk.2)); have HV := Aside0.mk (HV.out.below hb5); have HO5 := Aside0.mk ho5; clear ho5 hb5 hg5 hn5)) | ((with_reducible refine gate_builtin (b := .append) (xs := #[.tmp 22, .tmp 33]) rfl ?_); go_loud (at_builtin; refine Kd.R_append_rows (Kd.int .u8) (w0 := w5) w.heap.size rfl (.tmp 22) (.tmp 33) 52 5 (.int .u8 0) 1 rfl Tryd.underlying52 info5 rfl (by decide) (by omega) (.slice A (kl s 1 i).length ca) (kl s 1 i) (quad b) _ _ _ (fun k_ => some k_ ≠ (.slice A5 (quad b).length c5 : Value).ownBlock) (fun _ => False) rfl rfl ?aO ?aR (fun _ _ h => h) (fun _ h => h.elim) ?aF ?aB ?aS ?aL ?_; (case aR => exact (Kd.R_reads' HO5.out).2.2); (case aB => exact Below.refl _ _); (case aF => exact (fun k_ hk => Kd.fresh' (Kd.R_lt HO5.out) k_ hk)); (case aO => exact HO.out); (case aS => exact HV.out.turn.size); (case aL => rw [kl_len]; simp [quad]; omega); intro v6 w6 ho hb hg hat; have HV := Aside0.mk (HV.out.more hb (Kd.R_mono ho (fun _ _ => trivial))); clear ho hb hg hat)))
            go_roundw
            case rel =>
              refine ⟨i + 1, by omega, rfl, ⟨by omega⟩, ⟨?_⟩⟩
              have h := HV.out
              rw [← HKL.out, show 1 + (i : Int) + 1 = 1 + ((i + 1 : Nat) : Int) by omega] at h
              exact h
            case measure => simp [intOf]; omega
          · have HL : ∀ w', Turn rb w w' → LeftK w rb D (gives 11) w' := fun w' ht => by
              have hD := HD.out
              rw [if_pos (by omega)] at hD
              exact ⟨ht, Or.inr ⟨by rw [hD]; decide, by rw [hD]⟩⟩
            have HL := Aside0.mk HL
            go_wp2_with fail
            refine (next_gone rb s (1 + i) _ HV.out.rdr (by omega)).mono ?_
            rintro e w2 ⟨he, hd⟩
            unfold gives at he
            subst he
            have HV := Aside0.mk (HV.out.drawn hd)
            clear hd
            go_wp2
            exact ⟨rfl, HL.out _ HV.out.turn⟩
        · obtain rfl : i = n := by omega
          have hb : decide ((i : Int) < (i : Int)) = false := decide_eq_false (by omega)
          have hD := HD.out
          rw [if_neg (by have := HQ.out; omega), Int.toNat_natCast, Int.toNat_natCast] at hD
          have HD := Aside0.mk hD
          clear hD hb
          have hL := kl_len s 1 i
          have HKR := Aside0.mk (kl_rng s 1 i)
          generalize kl s 1 i = ks at HV HD hL HKR
          obtain ⟨ti, hti, hsz⟩ := tinfo
          have hca : ks.length ≤ ca := (Kd.R_reads' HV.out.own).2.1
          have hC := (Kd.R_reads' HV.out.own).2.2
          have hcl : c ≤ ks.length := by have := HN.out; omega
          obtain ⟨A2, hA2⟩ : ∃ A2, A2 = (if ca = c then A else A.map (·.add (c * 1))) := ⟨_, rfl⟩
          have hcut : ∀ W : World, (Instr.slice 52 (.slice A ks.length ca) (some (.int .i64 (c : Int))) none none).run Tryd.prog W = .ok (.slice A2 (ks.drop c).length (ca - c)) W := by
            intro W
            rw [cut_from 52 5 .i64 Tryd.underlying52 hti 1 hsz A ks.length ca (c : Int) (by omega) (by omega) W, Int.toNat_natCast, hA2, List.length_drop]
          have hC2 : Kd.C (Kd.int .u8) wr A2 (ks.drop c).length (ks.drop c) := by rw [hA2]; exact Kd.C_drop hC hcl hca
          have HC2 := Aside0.mk hC2
          have HCT := Aside0.mk (Kd.C_take hC hcl)
          have HCA := Aside0.mk hca
          have HCL := Aside0.mk hcl
          have hcut2 : ∀ W : World, (Instr.slice 52 (.slice A ks.length ca) none (some (.int .i64 (c : Int))) none).run Tryd.prog W = .ok (.slice A c ca) W := by
            intro W
            rw [cut_to 52 5 .i64 Tryd.underlying52 hti A ks.length ca (c : Int) (by omega) (by omega) hca W, Int.toNat_natCast]
          have HCUT := Aside0.mk hcut2
          clear hcut2
          have HLL := Aside0.mk hL
          clear hC2 hA2 hC hca hcl hsz hL
          have hds : (ks.drop c).length ≤ 16 := by rw [List.length_drop]; have := HLL.out; omega
          generalize ks.drop c = ds at HC2 HD hcut hds
          go_wp2_with fail
          clear hcut
          go_loopw [40] (fun v40 wr' => ∃ j : Nat, j ≤ ds.length ∧ v40 = .int .i64 (j : Int) ∧ Aside0 ((ds.take j).all (fun k => k == 0) = true) ∧ wr' = wr) (fun v40 _ => ds.length - (intOf v40).toNat)
          case atStart => exact ⟨0, by omega, rfl, ⟨by simp⟩, rfl⟩
          case round =>
            obtain ⟨j, hj, rfl, HA, rfl⟩ := hrel
            by_cases hjl : j < ds.length
            · have hb : decide ((j : Int) < (ds.length : Int)) = true := decide_eq_true (by omega)
              have hb' : decide (j < ds.length) = true := decide_eq_true hjl
              obtain ⟨ad, had, hcell⟩ := Kd.at_int HC2.out (j : Int) (by omega) (by omega)
              subst had
              rw [Int.toNat_natCast] at hcell
              have hrd : rd ds (j : Int) = ds[j] := by simp [rd, hjl]
              have HRD := Aside0.mk hrd
              have HJ := Aside0.mk hjl
              clear hrd
              by_cases hx : rd ds (j : Int) = 0
              · have hxb : (rd ds (j : Int) != 0) = false := by rw [hx]; rfl
                have HX := Aside0.mk hx
                clear hx
                go_wp2_with (go_at_call 37; refine (fail_ok _ _ _).mono ?_; rintro e w5 ⟨rfl, rfl⟩)
                go_roundw
                case rel =>
                  refine ⟨j + 1, by omega, by go_num, ⟨?_⟩, trivial⟩
                  rw [List.take_succ_eq_append_getElem HJ.out, List.all_append, HA.out, Bool.true_and]
                  have h := HX.out
                  rw [HRD.out] at h
                  simp [h]
                case measure => simp [intOf]; omega
              · have hxb : (rd ds (j : Int) != 0) = true := bne_iff_ne.2 hx
                have hall : ds.all (fun k => k == 0) = false := by
                  cases hc : ds.all (fun k => k == 0) with
                  | false => rfl
                  | true =>
                    rw [List.all_eq_true] at hc
                    have := hc (ds[j]) (List.getElem_mem _)
                    rw [HRD.out] at hx
                    exact absurd (beq_iff_eq.1 this) hx
                have hD := HD.out
                rw [if_pos hall] at hD
                have HL : Aside0 (LeftK w rb D (gives 14) wr) := ⟨⟨HV.out.turn, Or.inr ⟨by rw [hD]; decide, by rw [hD]⟩⟩⟩
                clear hD hall hx
                go_wp2_with (go_at_call 37; refine (fail_gone _ _ _).mono ?_; rintro e w5 ⟨he, rfl⟩; unfold gives at he; subst he)
                go_wp2
                exact ⟨rfl, HL.out⟩
            · have hall : ds.all (fun k => k == 0) = true := by
                have h := HA.out
                rwa [List.take_of_length_le (by omega)] at h
              have hb : decide ((j : Int) < (ds.length : Int)) = false := decide_eq_false (by omega)
              have hb' : decide (j < ds.length) = false := decide_eq_false hjl
              have hD := HD.out
              rw [if_neg (by rw [hall]; decide)] at hD
              have HD := Aside0.mk hD
              clear hD hall hjl
              have HM : Aside0 (Ms w sb rb s (1 + (i : Int)) (.slice A ks.length ca) ks (.slice none 0 0) [] wr) := ⟨⟨⟨HV.out.turn, HV.out.sbx, HV.out.rdr, Kd.R_nil _ _ _ _ _, HV.out.lt, HV.out.ne⟩, HV.out.own⟩⟩
              have hcut := HCUT.out
              have hc16 : c ≤ 16 := HN.out.1
              go_wp2_with fail
              clear hcut hb hb' HV HC2 HCT
              go_loopw [8, 52] (fun v8 v52 wr => ∃ (j : Nat) (p : Int) (l : List S33), j ≤ c ∧ v52 = .int .i64 (j : Int) ∧ Aside0 (0 ≤ p ∧ l.length = j) ∧ Aside0 (Ms w sb rb s p (.slice A ks.length ca) ks v8 l wr) ∧ Aside0 (D = cols s ((ks.take c).drop j) p l)) (fun _ v52 _ => c - (intOf v52).toNat)
              case atStart => exact ⟨0, _, [], by omega, rfl, ⟨by simp; omega⟩, HM, ⟨HD.out⟩⟩
              case round =>
                clear HM HD
                obtain ⟨j, p, l, hj, rfl, HPL, HM, HD⟩ := hrel
                obtain ⟨B, cb, hv⟩ := Kd.R_slice HM.out.vs.own
                subst hv
                by_cases hjl : j < c
                · have hb : decide ((j : Int) < (c : Int)) = true := decide_eq_true (by omega)
                  have hb' : decide (j < c) = true := decide_eq_true hjl
                  have hjk : j < ks.length := by have := HCL.out; omega
                  obtain ⟨ad, had, hcell⟩ := Kd.at_int (Kd.R_reads' HM.out.kin).2.2 (j : Int) (by omega) (by omega)
                  subst had
                  rw [Int.toNat_natCast] at hcell
                  have hrd : rd ks (j : Int) = ks[j] := by simp [rd, hjk]
                  have hxr := HKR.out (ks[j]) (List.getElem_mem _)
                  rw [← hrd] at hxr
                  have hdr : (ks.take c).drop j = rd ks (j : Int) :: (ks.take c).drop (j + 1) := by
                    rw [List.drop_eq_getElem_cons (by rw [List.length_take]; omega), List.getElem_take, hrd]
                  have hD := HD.out
                  rw [hdr] at hD
                  simp only [cols] at hD
                  obtain ⟨x, q, e1, hr1⟩ : ∃ x q e, rdC s p (rd ks (j : Int)) = (x, q, e) := ⟨_, _, _, rfl⟩
                  rw [hr1] at hD
                  simp only at hD
                  have HB := Aside0.mk (back_hi (rd ks (j : Int)) hxr rb s p HS.out HPL.out.1 x q e1 hr1)
                  have HQ : Aside0 (e1 = 0 → 0 ≤ q) := ⟨fun h0 => by have := rdC_pos s p (rd ks (j : Int)) HPL.out.1 (by rw [hr1]; exact h0); rw [hr1] at this; exact this⟩
                  have HD := Aside0.mk hD
                  clear hD hdr hrd hr1 hjk
                  generalize rd ks (j : Int) = k at hcell hxr HB
                  have h4 : k = 0 ∨ k = 1 ∨ k = 2 ∨ k = 3 := by omega
                  clear hxr
                  rcases h4 with rfl | rfl | rfl | rfl
                  · have hfld : ∀ W : World, (Instr.field 56 (.agg #[fv 44, fv 45, fv 46]) 2).run Tryd.prog W = .ok (fv 46) W := fun W => by kernel_rfl
                    go_wp2_with (first | (go_at_call 27; refine (codecs_is 0 (by omega) _).mono ?_; rintro e w4 ⟨rfl, hb4⟩; rw [show codV 0 = .agg #[fv 44, fv 45, fv 46] from rfl]; have HM := Aside0.mk (HM.out.below hb4); clear hb4))
                    refine (HB.out _ HM.out.vs.rdr).mono ?_
                    rintro e w5 ⟨ht, hh⟩
                    rcases hh with ⟨h0, rfl, hg⟩ | ⟨h0, he⟩
                    · have hD := HD.out
                      rw [if_pos h0] at hD
                      have HD := Aside0.mk hD
                      have HQ := Aside0.mk (HQ.out h0)
                      have HM := Aside0.mk (HM.out.reads ht hg)
                      clear ht hg hD h0 hb hb' hcell hfld
                      go_wp2_with ((with_reducible refine gate_builtin (b := .append) (xs := #[.tmp 56, .tmp 62]) rfl ?_); go_loud (at_builtin; refine Kd.R_append k33 (w0 := w5) w.heap.size rfl (.tmp 56) (.tmp 62) 22 33 (.agg #[(.int .i64 0), (.int .i64 0), (.string ⟨#[]⟩)]) 32 rfl Tryd.underlying22 info33 rfl (by decide) (by omega) (.slice B l.length cb) l x [.int .i64 x.f0, .int .i64 x.f1, .string x.f2] (fun _ => True) (fun _ => False) rfl (by first | (go_simp; done) | (go_simp; rfl)) ?aP (fun _ hk => hk.elim) ?aF ?aO ?aB ?aS ?aL ?_; (case aP => exact k33_mkM _ _ _ x); (case aF => exact (fun _ _ => trivial)); (case aO => exact HM.out.vs.own); (case aB => exact Below.refl _ _); (case aS => exact HM.out.vs.turn.size); (case aL => have := HPL.out; omega); intro u' w6 ho hb hg hat; have HM := Aside0.mk (HM.out.more hb hg ho); clear ho hb hg hat))
                      go_roundw
                      case rel => exact ⟨j + 1, q, l ++ [x], by omega, by go_num, ⟨by have := HPL.out; have := HQ.out; rw [List.length_append, List.length_singleton]; omega⟩, HM, HD⟩
                      case measure => simp [intOf]; omega
                    · have HL : Aside0 (LeftK w rb D e w5) := by
                        have hD := HD.out
                        rw [if_neg h0] at hD
                        exact ⟨⟨HM.out.vs.turn.trans ht, Or.inr ⟨by rw [hD]; exact h0, by rw [hD]; exact he⟩⟩⟩
                      unfold gives at he
                      subst he
                      clear ht h0
                      go_wp2
                      exact ⟨rfl, HL.out⟩
                  · have hfld : ∀ W : World, (Instr.field 56 (.agg #[fv 47, fv 48, fv 49]) 2).run Tryd.prog W = .ok (fv 49) W := fun W => by kernel_rfl
                    go_wp2_with (first | (go_at_call 27; refine (codecs_is 1 (by omega) _).mono ?_; rintro e w4 ⟨rfl, hb4⟩; rw [show codV 1 = .agg #[fv 47, fv 48, fv 49] from rfl]; have HM := Aside0.mk (HM.out.below hb4); clear hb4))
                    refine (HB.out _ HM.out.vs.rdr).mono ?_
                    rintro e w5 ⟨ht, hh⟩
                    rcases hh with ⟨h0, rfl, hg⟩ | ⟨h0, he⟩
                    · have hD := HD.out
                      rw [if_pos h0] at hD
                      have HD := Aside0.mk hD
                      have HQ := Aside0.mk (HQ.out h0)
                      have HM := Aside0.mk (HM.out.reads ht hg)
                      clear ht hg hD h0 hb hb' hcell hfld
                      go_wp2_with ((with_reducible refine gate_builtin (b := .append) (xs := #[.tmp 56, .tmp 62]) rfl ?_); go_loud (at_builtin; refine Kd.R_append k33 (w0 := w5) w.heap.size rfl (.tmp 56) (.tmp 62) 22 33 (.agg #[(.int .i64 0), (.int .i64 0), (.string ⟨#[]⟩)]) 32 rfl Tryd.underlying22 info33 rfl (by decide) (by omega) (.slice B l.length cb) l x [.int .i64 x.f0, .int .i64 x.f1, .string x.f2] (fun _ => True) (fun _ => False) rfl (by first | (go_simp; done) | (go_simp; rfl)) ?aP (fun _ hk => hk.elim) ?aF ?aO ?aB ?aS ?aL ?_; (case aP => exact k33_mkM _ _ _ x); (case aF => exact (fun _ _ => trivial)); (case aO => exact HM.out.vs.own); (case aB => exact Below.refl _ _); (case aS => exact HM.out.vs.turn.size); (case aL => have := HPL.out; omega); intro u' w6 ho hb hg hat; have HM := Aside0.mk (HM.out.more hb hg ho); clear ho hb hg hat))
                      go_roundw
                      case rel => exact ⟨j + 1, q, l ++ [x], by omega, by go_num, ⟨by have := HPL.out; have := HQ.out; rw [List.length_append, List.length_singleton]; omega⟩, HM, HD⟩
                      case measure => simp [intOf]; omega
                    · have HL : Aside0 (LeftK w rb D e w5) := by
                        have hD := HD.out
                        rw [if_neg h0] at hD
                        exact ⟨⟨HM.out.vs.turn.trans ht, Or.inr ⟨by rw [hD]; exact h0, by rw [hD]; exact he⟩⟩⟩
                      unfold gives at he
                      subst he
                      clear ht h0
                      go_wp2
                      exact ⟨rfl, HL.out⟩
                  · have hfld : ∀ W : World, (Instr.field 56 (.agg #[fv 51, fv 52, fv 54]) 2).run Tryd.prog W = .ok (fv 54) W := fun W => by kernel_rfl
                    go_wp2_with (first | (go_at_call 27; refine (codecs_is 2 (by omega) _).mono ?_; rintro e w4 ⟨rfl, hb4⟩; rw [show codV 2 = .agg #[fv 51, fv 52, fv 54] from rfl]; have HM := Aside0.mk (HM.out.below hb4); clear hb4))
                    refine (HB.out _ HM.out.vs.rdr).mono ?_
                    rintro e w5 ⟨ht, hh⟩
                    rcases hh with ⟨h0, rfl, hg⟩ | ⟨h0, he⟩
                    · have hD := HD.out
                      rw [if_pos h0] at hD
                      have HD := Aside0.mk hD
                      have HQ := Aside0.mk (HQ.out h0)
                      have HM := Aside0.mk (HM.out.reads ht hg)
                      clear ht hg hD h0 hb hb' hcell hfld
                      go_wp2_with ((with_reducible refine gate_builtin (b := .append) (xs := #[.tmp 56, .tmp 62]) rfl ?_); go_loud (at_builtin; refine Kd.R_append k33 (w0 := w5) w.heap.size rfl (.tmp 56) (.tmp 62) 22 33 (.agg #[(.int .i64 0), (.int .i64 0), (.string ⟨#[]⟩)]) 32 rfl Tryd.underlying22 info33 rfl (by decide) (by omega) (.slice B l.length cb) l x [.int .i64 x.f0, .int .i64 x.f1, .string x.f2] (fun _ => True) (fun _ => False) rfl (by first | (go_simp; done) | (go_simp; rfl)) ?aP (fun _ hk => hk.elim) ?aF ?aO ?aB ?aS ?aL ?_; (case aP => exact k33_mkM _ _ _ x); (case aF => exact (fun _ _ => trivial)); (case aO => exact HM.out.vs.own); (case aB => exact Below.refl _ _); (case aS => exact HM.out.vs.turn.size); (case aL => have := HPL.out; omega); intro u' w6 ho hb hg hat; have HM := Aside0.mk (HM.out.more hb hg ho); clear ho hb hg hat))
                      go_roundw
                      case rel => exact ⟨j + 1, q, l ++ [x], by omega, by go_num, ⟨by have := HPL.out; have := HQ.out; rw [List.length_append, List.length_singleton]; omega⟩, HM, HD⟩
                      case measure => simp [intOf]; omega
                    · have HL : Aside0 (LeftK w rb D e w5) := by
                        have hD := HD.out
                        rw [if_neg h0] at hD
                        exact ⟨⟨HM.out.vs.turn.trans ht, Or.inr ⟨by rw [hD]; exact h0, by rw [hD]; exact he⟩⟩⟩
                      unfold gives at he
                      subst he
                      clear ht h0
                      go_wp2
                      exact ⟨rfl, HL.out⟩
                  · have hfld : ∀ W : World, (Instr.field 56 (.agg #[fv 56, fv 57, fv 58]) 2).run Tryd.prog W = .ok (fv 58) W := fun W => by kernel_rfl
                    go_wp2_with (first | (go_at_call 27; refine (codecs_is 3 (by omega) _).mono ?_; rintro e w4 ⟨rfl, hb4⟩; rw [show codV 3 = .agg #[fv 56, fv 57, fv 58] from rfl]; have HM := Aside0.mk (HM.out.below hb4); clear hb4))
                    refine (HB.out _ HM.out.vs.rdr).mono ?_
                    rintro e w5 ⟨ht, hh⟩
                    rcases hh with ⟨h0, rfl, hg⟩ | ⟨h0, he⟩
                    · have hD := HD.out
                      rw [if_pos h0] at hD
                      have HD := Aside0.mk hD
                      have HQ := Aside0.mk (HQ.out h0)
                      have HM := Aside0.mk (HM.out.reads ht hg)
                      clear ht hg hD h0 hb hb' hcell hfld
                      go_wp2_with ((with_reducible refine gate_builtin (b := .append) (xs := #[.tmp 56, .tmp 62]) rfl ?_); go_loud (at_builtin; refine Kd.R_append k33 (w0 := w5) w.heap.size rfl (.tmp 56) (.tmp 62) 22 33 (.agg #[(.int .i64 0), (.int .i64 0), (.string ⟨#[]⟩)]) 32 rfl Tryd.underlying22 info33 rfl (by decide) (by omega) (.slice B l.length cb) l x [.int .i64 x.f0, .int .i64 x.f1, .string x.f2] (fun _ => True) (fun _ => False) rfl (by first | (go_simp; done) | (go_simp; rfl)) ?aP (fun _ hk => hk.elim) ?aF ?aO ?aB ?aS ?aL ?_; (case aP => exact k33_mkM _ _ _ x); (case aF => exact (fun _ _ => trivial)); (case aO => exact HM.out.vs.own); (case aB => exact Below.refl _ _); (case aS => exact HM.out.vs.turn.size); (case aL => have := HPL.out; omega); intro u' w6 ho hb hg hat; have HM := Aside0.mk (HM.out.more hb hg ho); clear ho hb hg hat))
                      go_roundw
                      case rel => exact ⟨j + 1, q, l ++ [x], by omega, by go_num, ⟨by have := HPL.out; have := HQ.out; rw [List.length_append, List.length_singleton]; omega⟩, HM, HD⟩
                      case measure => simp [intOf]; omega
                    · have HL : Aside0 (LeftK w rb D e w5) := by
                        have hD := HD.out
                        rw [if_neg h0] at hD
                        exact ⟨⟨HM.out.vs.turn.trans ht, Or.inr ⟨by rw [hD]; exact h0, by rw [hD]; exact he⟩⟩⟩
                      unfold gives at he
                      subst he
                      clear ht h0
                      go_wp2
                      exact ⟨rfl, HL.out⟩
                · obtain rfl : j = c := by omega
                  have hD := HD.out
                  rw [List.drop_of_length_le (by rw [List.length_take]; omega)] at hD
                  simp only [cols] at hD
                  have hb : decide ((j : Int) < (j : Int)) = false := decide_eq_false (by omega)
                  obtain ⟨x0, x1⟩ := HM.out.vs.c
                  by_cases hps : p < (s.size : Int)
                  · rw [if_pos hps] at hD
                    have hbp : decide (p < (s.size : Int)) = true := decide_eq_true hps
                    have HL : Aside0 (LeftK w rb D (gives 16) wr) := ⟨⟨HM.out.vs.turn, Or.inr ⟨by rw [hD]; decide, by rw [hD]⟩⟩⟩
                    clear hD hps
                    go_wp2_with (go_at_call 37; refine (fail_gone _ _ _).mono ?_; rintro e w5 ⟨he, rfl⟩; unfold gives at he; subst he)
                    go_wp2
                    exact ⟨rfl, HL.out⟩
                  · rw [if_neg hps] at hD
                    have hbp : decide (p < (s.size : Int)) = false := decide_eq_false hps
                    have HL : Aside0 (LeftK w rb D (.returned (.slice B l.length cb)) wr) := by
                      subst hD
                      exact ⟨⟨HM.out.vs.turn, Or.inl ⟨rfl, B, cb, rfl, HM.out.vs.own⟩⟩⟩
                    clear hD hps
                    go_wp2_with (go_at_call 37; refine (fail_ok _ _ _).mono ?_; rintro e w5 ⟨rfl, rfl⟩)
                    go_ret
                    exact HL.out
  · rw [if_pos hlt] at hD
    have HL : ∀ w', Turn rb w w' → LeftK w rb D (gives 11) w' := fun w' ht => ⟨ht, Or.inr ⟨by rw [hD]; decide, by rw [hD]⟩⟩
    have HL := Aside0.mk HL
    clear hD
    go_enter Tryd.func40, Tryd.ntmps40
    go_wp2_with fail
    refine (next_gone rb s 0 _ HV.out.rdr (by omega)).mono ?_
    rintro e w2 ⟨he, hd⟩
    unfold gives at he
    subst he
    have HV := Aside0.mk (HV.out.drawn hd)
    clear hd
    go_wp2
    exact ⟨rfl, HL.out _ HV.out.turn⟩
/-- What stands behind gather: the values, or none and the fault; of the elder blocks the reader's alone is another. -/
theorem gath_row (rb : Nat) (caps : Array Value) (w : World) (D : List S33 × Int) (hD : D.2 ≠ 0 → D.1 = []) (hrb : rb < w.heap.size)
    (h : Calls Tryd.prog 40 caps ((w.alloc (.cells #[.slice none 0 0] 22)).alloc (.cells #[.int .i64 0] 24)) fun e w' => LeftK ((w.alloc (.cells #[.slice none 0 0] 22)).alloc (.cells #[.int .i64 0] 24)) rb D e w') :
    Calls Tryd.prog 35 #[.func (.func 40) #[] caps] w fun e w' => ∃ v0_ : Value, e = .returned (.tuple #[v0_, .int .i64 D.2]) ∧ Kd.R k33 33 w' w.heap.size (fun _ => True) v0_ D.1 ∧ Turn rb w w' := by
  obtain ⟨W2, e2⟩ : ∃ W2, W2 = (w.alloc (.cells #[.slice none 0 0] 22)).alloc (.cells #[.int .i64 0] 24) := ⟨_, rfl⟩
  have z2 : W2.heap.size = w.heap.size + 2 := by rw [e2]; simp
  have b0 : W2.heap[w.heap.size]? = some (.cells #[.slice none 0 0] 22 (0, 0)) := by
    rw [e2]; exact (heap_alloc_old _ _ (by simp)).trans (heap_alloc_new _ _)
  have b1 : W2.heap[w.heap.size + 1]? = some (.cells #[.int .i64 0] 24 (0, 0)) := by
    rw [e2]; simpa using heap_alloc_new (w.alloc (.cells #[.slice none 0 0] 22)) (.cells #[.int .i64 0] 24)
  have HB : Below w.heap.size w W2 := by rw [e2]; exact below_alloc (below_alloc (Below.refl _ _) _) _
  rw [← e2] at h
  refine (gather_row caps w (fun e w' => LeftK W2 rb D e w') (e2 ▸ h) (fun e w1 hq => ⟨?_, hq.1.blk b0 (by omega), hq.1.blk b1 (by omega)⟩)).mono ?_
  · rcases hq.2 with ⟨_, A, c, he, _⟩ | ⟨_, he⟩
    · exact Or.inl ⟨A, _, c, he⟩
    · exact Or.inr ⟨_, he⟩
  · rintro e w' ⟨e0, w1, hq, hor⟩
    have hT := hq.1
    have g0 := hT.blk b0 (by omega)
    have g1 := hT.blk b1 (by omega)
    have hB1 : ∀ k, k < w.heap.size → k ≠ rb → w1.heap[k]? = w.heap[k]? := fun k hk hr => (hT.block k (by omega) hr).trans (HB.block k hk)
    have hs1 : w.heap.size + 2 ≤ w1.heap.size := by have := hT.size; omega
    rcases hor with ⟨A, n, c, rfl, rfl, rfl⟩ | ⟨why, rfl, rfl, hh⟩
    · rcases hq.2 with ⟨hz, A', c', he, ho⟩ | ⟨_, he⟩
      · simp only [Ending.returned.injEq, Value.slice.injEq] at he
        obtain ⟨rfl, rfl, rfl⟩ := he
        refine ⟨_, by rw [hz], ?_, ?_⟩
        · exact Kd.R_lower (Kd.R_mono (Kd.R_far (p := ⟨w.heap.size + 1, 0, none⟩) (Kd.R_far (p := ⟨w.heap.size, 0, none⟩) (Kd.R_types (Kd.R_types ho g0 (by decide)) g1 (by decide)) (fun _ hk => hk.1.2) _) (fun _ hk => hk.2) _) (fun _ _ => trivial)) (by omega)
        · exact ⟨hT.os.trans HB.os, hT.tape.trans HB.tape, hT.output.trans HB.output, by simp [World.setCell]; omega, fun k hk hr => ((Below.heap_setCell _ _ _ _ (by show k ≠ w.heap.size + 1; omega)).trans (Below.heap_setCell _ _ _ _ (by show k ≠ w.heap.size; omega))).trans (hB1 k hk hr)⟩
      · unfold gives at he; cases he
    · rcases hq.2 with ⟨hz, A', c', he, ho⟩ | ⟨hz, he⟩
      · unfold gives at he; cases he
      · have hw : why = D.2 := by
          unfold gives brk at he
          simp only [Ending.panicked.injEq, List.cons.injEq, and_true, PanicEntry.mk.injEq, Value.iface.injEq, Value.agg.injEq, true_and] at he
          simpa using he
        subst hw
        refine ⟨_, rfl, by rw [hD hz]; exact Kd.R_nil _ _ _ _ _, ?_⟩
        exact ⟨hh.os.trans (hT.os.trans HB.os), hh.tape.trans (hT.tape.trans HB.tape), hh.output.trans (hT.output.trans HB.output), by have := hh.size; omega, fun k hk hr => (hh.block k (by omega) (by omega) (by omega)).trans (hB1 k hk hr)⟩
/-- bits.ReadRow, as a plain function. -/
def bits_ReadRow.f (a0 : ByteArray) : Option (List (S33) × Int) := if a0.size ≤ 4611686018427387904 then some (rrow a0) else none
theorem cols_bad (s : ByteArray) : ∀ (ks : List Int) (p : Int) (l : List S33), (cols s ks p l).2 ≠ 0 → (cols s ks p l).1 = []
  | [], p, l, h => by
    simp only [cols] at h ⊢
    by_cases h1 : p < (s.size : Int)
    · rw [if_pos h1]
    · rw [if_neg h1] at h; exact absurd rfl h
  | k :: ks, p, l, h => by
    simp only [cols] at h ⊢
    by_cases h1 : (rdC s p k).2.2 = 0
    · rw [if_pos h1] at h ⊢; exact cols_bad s ks _ _ h
    · rw [if_neg h1]
theorem rrow_bad (s : ByteArray) (h : (rrow s).2 ≠ 0) : (rrow s).1 = [] := by
  unfold rrow at h ⊢
  split
  · rfl
  · rename_i h1
    rw [if_neg h1] at h
    split
    · rfl
    · rename_i h2
      rw [if_neg h2] at h
      split
      · rfl
      · rename_i h3
        rw [if_neg h3] at h
        split
        · rfl
        · rename_i h4
          rw [if_neg h4] at h
          exact cols_bad s _ _ _ h
set_option maxRecDepth 100000 in
set_option maxHeartbeats 4000000 in
theorem bits_ReadRow.calls (a0 : ByteArray) (r1 : List (S33)) (r2 : Int) (w : World) (h : bits_ReadRow.f a0 = some (r1, r2)) :
    Calls Tryd.prog 20 #[.string a0] w fun e w' => ∃ v0_ : Value, e = .returned (.tuple #[v0_, .int .i64 r2]) ∧ Kd.R k33 33 w' w.heap.size (fun _ => True) v0_ r1 ∧ Below w.heap.size w w' := by
  unfold bits_ReadRow.f at h
  by_cases hs : a0.size ≤ 4611686018427387904
  · rw [if_pos hs] at h
    have HR := Aside0.mk (Option.some.inj h)
    have HS := Aside0.mk hs
    clear h hs
    obtain ⟨w3, e3⟩ : ∃ w3, w3 = (w.alloc (.cells #[.string a0] 9)).alloc (.cells #[.string a0, .int .i64 0] 65) := ⟨_, rfl⟩
    have z3 : w3.heap.size = w.heap.size + 2 := by rw [e3]; simp
    have b0 : w3.heap[w.heap.size]? = some (.cells #[.string a0] 9 (0, 0)) := by
      rw [e3]; exact (heap_alloc_old _ _ (by simp)).trans (heap_alloc_new _ _)
    have b1 : w3.heap[w.heap.size + 1]? = some (Rd a0 0) := by
      rw [e3]; simpa using heap_alloc_new (w.alloc (.cells #[.string a0] 9)) (.cells #[.string a0, .int .i64 0] 65)
    have HB : Aside0 (Below w.heap.size w w3) := ⟨by rw [e3]; exact below_alloc (below_alloc (Below.refl _ _) _) _⟩
    have b0' : ((w3.alloc (.cells #[.slice none 0 0] 22)).alloc (.cells #[.int .i64 0] 24)).heap[w.heap.size]? = some (.cells #[.string a0] 9 (0, 0)) := (heap_alloc_old _ _ (by simp; omega)).trans ((heap_alloc_old _ _ (by omega)).trans b0)
    have b1' : ((w3.alloc (.cells #[.slice none 0 0] 22)).alloc (.cells #[.int .i64 0] 24)).heap[w.heap.size + 1]? = some (Rd a0 0) := (heap_alloc_old _ _ (by simp; omega)).trans ((heap_alloc_old _ _ (by omega)).trans b1)
    have HI := Aside0.mk (gath_row (w.heap.size + 1) #[.pointer (some ⟨w.heap.size + 1, 0, none⟩), .pointer (some ⟨w.heap.size, 0, none⟩)] w3 (rrow a0) (rrow_bad a0) (by omega) (innerR _ w.heap.size (w.heap.size + 1) a0 HS.out b0' b1' (by omega)))
    have HZ := Aside0.mk z3
    have E3 := Aside0.mk e3
    have c0 : _ = some (Value.string a0) := (blk_cell (heap_alloc_new w (.cells #[.string a0] 9)) 0).trans rfl
    have hmf : ∀ (fn : Fn) (first cap : Array Value) (w : World), (Instr.makeFunc fn first cap).run Tryd.prog w = .ok (.func fn first cap) w := fun _ _ _ _ => rfl
    clear b0 b1 b0' b1' z3 e3
    go_enter Tryd.func20, Tryd.ntmps20
    go_wp2_with fail
    rw [← E3.out]
    refine HI.out.mono ?_
    rintro e w4 ⟨v0, rfl, ho, hT⟩
    rw [HR.out] at ho
    rw [HR.out]
    have HL : Aside0 (Kd.R k33 33 w4 w.heap.size (fun _ => True) v0 r1 ∧ Below w.heap.size w w4) := ⟨Kd.R_lower ho (by have := HZ.out; omega), hT.below HB.out (by have := HZ.out; omega) (by omega)⟩
    clear ho hT c0
    go_wp2
    go_ret2
    exact ⟨_, rfl, HL.out⟩
  · rw [if_neg hs] at h
    cases h
end Go.Proofs.YtbekgkikgcmmaaaDoor.HBitW
