/- ReadKey, by the program: what its closure leaves, and the call itself. -/
import Derived.Test.YtbekgkikgcmmaaaDoorHBitG
set_option linter.unusedVariables false
set_option linter.unusedSimpArgs false
namespace Go.Proofs.YtbekgkikgcmmaaaDoor.HBitK
open Go.RowKit Go.Proofs.YtbekgkikgcmmaaaDoor.PBit Go.Proofs.YtbekgkikgcmmaaaDoor.HBase Go.Proofs.YtbekgkikgcmmaaaDoorW.PrintWords Go.Proofs.YtbekgkikgcmmaaaDoorW.PrintLast Go.Proofs.YtbekgkikgcmmaaaDoorW.PrintMore Go.Proofs.YtbekgkikgcmmaaaDoor.HCore Go.Proofs.YtbekgkikgcmmaaaDoor.HBitR Go.Proofs.YtbekgkikgcmmaaaDoor.HBitV Go.Proofs.YtbekgkikgcmmaaaDoor.HBitG

/-- The values of a key, or the fault. -/
def krun (s : ByteArray) : Nat → Int → List S33 → List S33 × Int
  | 0, _, l => ([], 18)
  | k + 1, p, l =>
    if p < (s.size : Int) then
      (if (l.length : Int) = 16 then ([], 18) else
        (if (rdV s p).2.2 = 0 then krun s k (rdV s p).2.1 (l ++ [(rdV s p).1]) else ([], (rdV s p).2.2)))
    else (l, 0)
theorem esc_pos (s : ByteArray) : ∀ (k : Nat) (p : Int) (l : List Int), (esc s k p l).2.2 = 0 → p < (esc s k p l).2.1
  | 0, p, l, h => by simp [esc] at h
  | k + 1, p, l, h => by
    simp only [esc] at h ⊢
    split at h
    · rename_i h1
      rw [if_pos h1]
      split at h
      · rename_i h2
        rw [if_pos h2]
        split at h
        · rename_i h3
          rw [if_pos h3]
          split at h
          · rename_i h4
            rw [if_pos h4]
            show p < p + 2
            omega
          · rename_i h4
            rw [if_neg h4]
            split at h
            · rename_i h5
              rw [if_pos h5]
              split at h
              · exact absurd h (by simp)
              · rename_i h6
                rw [if_neg h6]
                have := esc_pos s k _ _ h
                omega
            · exact absurd h (by simp)
        · exact absurd h (by simp)
      · rename_i h2
        rw [if_neg h2]
        split at h
        · exact absurd h (by simp)
        · rename_i h6
          rw [if_neg h6]
          have := esc_pos s k _ _ h
          omega
    · exact absurd h (by simp)
theorem rdI_pos (s : ByteArray) (p t : Int) (n : Nat) (h : (rdI s p t n).2.2 = 0) : (rdI s p t n).2.1 = p + n := by
  unfold rdI at h ⊢
  by_cases h1 : (s.size : Int) - p < n
  · rw [if_pos h1] at h; exact absurd h (by simp)
  · rw [if_neg h1] at h ⊢
    by_cases h2 : 0 < n ∧ Go.bits .xor .u8 (bt s p) t = 0
    · rw [if_pos h2] at h; exact absurd h (by simp)
    · rw [if_neg h2] at h ⊢
      by_cases h3 : bigv s p t n > 9223372036854775807
      · rw [if_pos h3] at h; exact absurd h (by simp)
      · rw [if_neg h3]
theorem rdV_pos (s : ByteArray) (p : Int) (hp : 0 ≤ p) (h : (rdV s p).2.2 = 0) : p < (rdV s p).2.1 := by
  unfold rdV at h ⊢
  by_cases h1 : p < (s.size : Int)
  · rw [if_pos h1] at h ⊢
    by_cases h2 : bt s p = 16
    · rw [if_pos h2]; show p < p + 1; omega
    · rw [if_neg h2] at h ⊢
      by_cases h3 : bt s p = 32 ∨ bt s p = 33
      · rw [if_pos h3]; show p < p + 1; omega
      · rw [if_neg h3] at h ⊢
        by_cases h4 : 56 ≤ bt s p ∧ bt s p ≤ 64
        · rw [if_pos h4] at h ⊢
          have := rdI_pos s (p + 1) 0 (bt s p - 56).toNat h
          show p < (rdI s (p + 1) 0 (bt s p - 56).toNat).2.1
          omega
        · rw [if_neg h4] at h ⊢
          by_cases h5 : bt s p < 56 ∧ 47 ≤ bt s p
          · rw [if_pos h5] at h ⊢
            have := rdI_pos s (p + 1) 255 (55 - bt s p).toNat h
            show p < (rdI s (p + 1) 255 (55 - bt s p).toNat).2.1
            omega
          · rw [if_neg h5] at h ⊢
            by_cases h6 : bt s p = 80
            · rw [if_pos h6] at h ⊢
              have := esc_pos s (s.size + 1) (p + 1) [] h
              show p < (esc s (s.size + 1) (p + 1) []).2.1
              omega
            · rw [if_neg h6] at h; exact absurd h (by simp)
  · rw [if_neg h1] at h; exact absurd h (by simp)
/-- What stands while a key is read: the text's variable in block sb, the reader in rb. -/
structure Ks (w : World) (sb rb : Nat) (s : ByteArray) (p : Int) (u : Value) (l : List S33) (wr : World) : Prop where
  turn : Turn rb w wr
  sbx : wr.heap[sb]? = some (.cells #[.string s] 9 (0, 0))
  rdr : wr.heap[rb]? = some (Rd s p)
  own : Kd.R k33 33 wr w.heap.size (fun _ => True) u l
  lt : sb < w.heap.size ∧ rb < w.heap.size
  ne : sb ≠ rb
section
variable {w wr wr' : World} {sb rb : Nat} {s : ByteArray} {p q : Int} {u : Value} {l : List S33}
theorem Ks.below (h : Ks w sb rb s p u l wr) (hb : Below wr.heap.size wr wr') : Ks w sb rb s p u l wr' :=
  ⟨h.turn.trans (Turn.of_below hb), (hb.block _ (blk_lt h.sbx)).trans h.sbx, (hb.block _ (blk_lt h.rdr)).trans h.rdr, Kd.R_below h.own hb, h.lt, h.ne⟩
theorem Ks.drawn (h : Ks w sb rb s p u l wr) (hd : Drawn0 wr wr') : Ks w sb rb s p u l wr' := h.below hd.below
theorem Ks.reads (h : Ks w sb rb s p u l wr) (ht : Turn rb wr wr') (hr : wr'.heap[rb]? = some (Rd s q)) : Ks w sb rb s q u l wr' :=
  ⟨h.turn.trans ht, ht.blk h.sbx h.ne, hr, Kd.R_mono (Kd.R_keep (Kd.R_types h.own h.rdr (by decide)) (g := rb) ⟨ht.size, fun i hi hg _ => ht.block i hi hg⟩ (fun _ hk => hk.2)) (fun _ _ => trivial), h.lt, h.ne⟩
theorem Ks.more (h : Ks w sb rb s p u l wr) {u' : Value} {l' : List S33} (hb : Below w.heap.size wr wr') (ho : Kd.R k33 33 wr' w.heap.size (fun _ => True) u' l') : Ks w sb rb s p u' l' wr' :=
  ⟨⟨hb.os.trans h.turn.os, hb.tape.trans h.turn.tape, hb.output.trans h.turn.output, Nat.le_trans h.turn.size hb.size, fun k hk hc => (hb.block k hk).trans (h.turn.block k hk hc)⟩,
    (hb.block _ h.lt.1).trans h.sbx, (hb.block _ h.lt.2).trans h.rdr, ho, h.lt, h.ne⟩
theorem Ks.c (h : Ks w sb rb s p u l wr) : wr.cell? ⟨sb, 0, none⟩ = some (.string s) ∧ wr.cell? ⟨rb, 1, none⟩ = some (.int .i64 p) :=
  ⟨(blk_cell h.sbx 0).trans rfl, (blk_cell h.rdr 1).trans rfl⟩
end
/-- What the closure leaves. -/
def LeftK (w : World) (rb : Nat) (D : List S33 × Int) (e : Ending) (w' : World) : Prop :=
  Turn rb w w' ∧ ((D.2 = 0 ∧ ∃ A c, e = .returned (.slice A D.1.length c) ∧ Kd.R k33 33 w' w.heap.size (fun _ => True) (.slice A D.1.length c) D.1) ∨ (D.2 ≠ 0 ∧ e = gives D.2))
set_option maxRecDepth 100000 in
set_option maxHeartbeats 4000000 in
theorem inner (w : World) (sb rb : Nat) (s : ByteArray) (hs : s.size ≤ 4611686018427387904) (hsb : w.heap[sb]? = some (.cells #[.string s] 9 (0, 0))) (hrb : w.heap[rb]? = some (Rd s 0)) (hne : sb ≠ rb) :
    Calls Tryd.prog 36 #[.pointer (some ⟨rb, 0, none⟩), .pointer (some ⟨sb, 0, none⟩)] w fun e w' => LeftK w rb (krun s 17 0 []) e w' := by
  have H0 : Aside0 (Ks w sb rb s 0 (.slice none 0 0) [] w) := ⟨⟨Turn.refl _ _, hsb, hrb, Kd.R_nil _ _ _ _ _, ⟨blk_lt hsb, blk_lt hrb⟩, hne⟩⟩
  have HS := Aside0.mk hs
  obtain ⟨D, hD⟩ : ∃ D, D = krun s 17 0 [] := ⟨_, rfl⟩
  rw [← hD]
  have HD := Aside0.mk hD
  clear hsb hrb hs hD hne
  go_enter Tryd.func36, Tryd.ntmps36
  go_wp2_with fail
  go_loopg [3] 17 (fun gk v3 wr => ∃ (p : Int) (l : List S33), Aside0 (0 ≤ p ∧ gk + l.length = 17 ∧ l.length ≤ 16) ∧ Aside0 (Ks w sb rb s p v3 l wr) ∧ Aside0 (D = krun s gk p l))
  case atStart => exact ⟨0, [], ⟨by simp⟩, H0, HD⟩
  case round =>
    clear H0 HD
    obtain ⟨p, l, HP, HV, HD⟩ := hrel
    have hD := HD.out
    obtain ⟨hp0, hpk, hpl⟩ := HP.out
    cases gk with
    | zero => exact absurd hpk (by omega)
    | succ k =>
      simp only [krun] at hD
      clear HD
      obtain ⟨A, c, hv⟩ := Kd.R_slice HV.out.own
      subst hv
      obtain ⟨c0, c1⟩ := HV.out.c
      by_cases hlt : p < (s.size : Int)
      · rw [if_pos hlt] at hD
        have hbl : decide (p < (s.size : Int)) = true := decide_eq_true hlt
        by_cases hf : (l.length : Int) = 16
        · rw [if_pos hf] at hD
          have hb4 : ((l.length : Int) == 16) = true := beq_iff_eq.2 hf
          have hb5 : (l.length == 16) = true := beq_iff_eq.2 (by omega)
          have HL : Aside0 (LeftK w rb D (gives 18) wr) := ⟨⟨HV.out.turn, Or.inr ⟨by rw [hD]; decide, by rw [hD]⟩⟩⟩
          clear hf hlt hD
          go_wp2_with (go_at_call 37; refine (fail_gone _ _ _).mono ?_; rintro e w3 ⟨he, rfl⟩; unfold gives at he; subst he)
          go_wp2
          exact ⟨rfl, HL.out⟩
        · rw [if_neg hf] at hD
          have hb4 : ((l.length : Int) == 16) = false := beq_eq_false_iff_ne.2 hf
          have hb5 : (l.length == 16) = false := beq_eq_false_iff_ne.2 (by omega)
          obtain ⟨x, q, e1, hr1⟩ : ∃ x q e, rdV s p = (x, q, e) := ⟨_, _, _, rfl⟩
          rw [hr1] at hD
          simp only at hD
          have HD := Aside0.mk hD
          have HF := Aside0.mk hf
          have HL := Aside0.mk hlt
          have HI := Aside0.mk (value_any rb s p wr HV.out.rdr HS.out hp0 x q e1 hr1)
          have HQ : Aside0 (e1 = 0 → 0 ≤ q) := ⟨fun h0 => by have := rdV_pos s p hp0 (by rw [hr1]; exact h0); rw [hr1] at this; simp only at this; omega⟩
          clear hD hf hlt hp0 hpk hpl hr1
          go_wp2_with (first | (go_at_call 37; refine (fail_ok _ _ _).mono ?_; rintro e w3 ⟨rfl, rfl⟩))
          refine HI.out.mono ?_
          rintro e w4 ⟨ht, hh⟩
          rcases hh with ⟨h0, rfl, hg⟩ | ⟨h0, he⟩
          · have hD := HD.out
            rw [if_pos h0] at hD
            have HD := Aside0.mk hD
            have HQ := Aside0.mk (HQ.out h0)
            have HV := Aside0.mk (HV.out.reads ht hg)
            clear ht hg hD h0 hb4 hb5 c0 c1 hbl
            go_wp2_with ((with_reducible refine gate_builtin (b := .append) (xs := #[.tmp 13, .tmp 15]) rfl ?_); go_loud (at_builtin; refine Kd.R_append k33 (w0 := w4) w.heap.size rfl (.tmp 13) (.tmp 15) 22 33 (.agg #[(.int .i64 0), (.int .i64 0), (.string ⟨#[]⟩)]) 32 rfl Tryd.underlying22 info33 rfl (by decide) (by omega) (.slice A l.length c) l x [.int .i64 x.f0, .int .i64 x.f1, .string x.f2] (fun _ => True) (fun _ => False) rfl (by first | (go_simp; done) | (go_simp; rfl)) ?aP (fun _ hk => hk.elim) ?aF ?aO ?aB ?aS ?aL ?_; (case aP => exact k33_mkM _ _ _ x); (case aF => exact (fun _ _ => trivial)); (case aO => exact HV.out.own); (case aB => exact Below.refl _ _); (case aS => exact HV.out.turn.size); (case aL => have := HP.out; omega); intro u' w5 ho hb hg hat; have HV := Aside0.mk (HV.out.more hb ho); clear ho hb hg hat))
            go_roundg k
            case measure => omega
            case rel => exact ⟨q, l ++ [x], ⟨by have := HP.out; have := HF.out; have := HQ.out; rw [List.length_append, List.length_singleton]; omega⟩, HV, HD⟩
          · have HL : Aside0 (LeftK w rb D e w4) := by
              have hD := HD.out
              rw [if_neg h0] at hD
              exact ⟨⟨HV.out.turn.trans ht, Or.inr ⟨by rw [hD]; exact h0, by rw [hD]; exact he⟩⟩⟩
            unfold gives at he
            subst he
            clear ht h0
            go_wp2
            exact ⟨rfl, HL.out⟩
      · rw [if_neg hlt] at hD
        have hbl : decide (p < (s.size : Int)) = false := decide_eq_false hlt
        have HL : Aside0 (LeftK w rb D (.returned (.slice A l.length c)) wr) := by
          subst hD
          exact ⟨⟨HV.out.turn, Or.inl ⟨rfl, A, c, rfl, HV.out.own⟩⟩⟩
        clear hD hlt
        go_wp2
        go_ret
        exact HL.out
/-- What stands behind gather: the values, or none and the fault; of the elder blocks the reader's alone is another. -/
theorem gath_key (rb : Nat) (caps : Array Value) (w : World) (D : List S33 × Int) (hD : D.2 ≠ 0 → D.1 = []) (hrb : rb < w.heap.size)
    (h : Calls Tryd.prog 36 caps ((w.alloc (.cells #[.slice none 0 0] 22)).alloc (.cells #[.int .i64 0] 24)) fun e w' => LeftK ((w.alloc (.cells #[.slice none 0 0] 22)).alloc (.cells #[.int .i64 0] 24)) rb D e w') :
    Calls Tryd.prog 35 #[.func (.func 36) #[] caps] w fun e w' => ∃ v0_ : Value, e = .returned (.tuple #[v0_, .int .i64 D.2]) ∧ Kd.R k33 33 w' w.heap.size (fun _ => True) v0_ D.1 ∧ Turn rb w w' := by
  obtain ⟨W2, e2⟩ : ∃ W2, W2 = (w.alloc (.cells #[.slice none 0 0] 22)).alloc (.cells #[.int .i64 0] 24) := ⟨_, rfl⟩
  have z2 : W2.heap.size = w.heap.size + 2 := by rw [e2]; simp
  have b0 : W2.heap[w.heap.size]? = some (.cells #[.slice none 0 0] 22 (0, 0)) := by
    rw [e2]; exact (heap_alloc_old _ _ (by simp)).trans (heap_alloc_new _ _)
  have b1 : W2.heap[w.heap.size + 1]? = some (.cells #[.int .i64 0] 24 (0, 0)) := by
    rw [e2]; simpa using heap_alloc_new (w.alloc (.cells #[.slice none 0 0] 22)) (.cells #[.int .i64 0] 24)
  have HB : Below w.heap.size w W2 := by rw [e2]; exact below_alloc (below_alloc (Below.refl _ _) _) _
  rw [← e2] at h
  refine (gather_key caps w (fun e w' => LeftK W2 rb D e w') (e2 ▸ h) (fun e w1 hq => ⟨?_, hq.1.blk b0 (by omega), hq.1.blk b1 (by omega)⟩)).mono ?_
  · rcases hq.2 with ⟨_, A, c, he, _⟩ | ⟨_, he⟩
    · exact Or.inl ⟨A, _, c, he⟩
    · exact Or.inr ⟨_, he⟩
  · rintro e w' ⟨e0, w1, hq, hor⟩
    have hT := hq.1
    have g0 := hT.blk b0 (by omega)
    have g1 := hT.blk b1 (by omega)
    have hB1 : ∀ k, k < w.heap.size → k ≠ rb → w1.heap[k]? = w.heap[k]? := fun k hk hr => (hT.block k (by omega) hr).trans (HB.block k hk)
    have hs1 : w.heap.size + 2 ≤ w1.heap.size := by have := hT.size; omega
    rcases hor with ⟨A, n, c, rfl, rfl, rfl⟩ | ⟨why, rfl, rfl, hh⟩
    · rcases hq.2 with ⟨hz, A', c', he, ho⟩ | ⟨_, he⟩
      · simp only [Ending.returned.injEq, Value.slice.injEq] at he
        obtain ⟨rfl, rfl, rfl⟩ := he
        refine ⟨_, by rw [hz], ?_, ?_⟩
        · exact Kd.R_lower (Kd.R_mono (Kd.R_far (p := ⟨w.heap.size + 1, 0, none⟩) (Kd.R_far (p := ⟨w.heap.size, 0, none⟩) (Kd.R_types (Kd.R_types ho g0 (by decide)) g1 (by decide)) (fun _ hk => hk.1.2) _) (fun _ hk => hk.2) _) (fun _ _ => trivial)) (by omega)
        · exact ⟨hT.os.trans HB.os, hT.tape.trans HB.tape, hT.output.trans HB.output, by simp [World.setCell]; omega, fun k hk hr => ((Below.heap_setCell _ _ _ _ (by show k ≠ w.heap.size + 1; omega)).trans (Below.heap_setCell _ _ _ _ (by show k ≠ w.heap.size; omega))).trans (hB1 k hk hr)⟩
      · unfold gives at he; cases he
    · rcases hq.2 with ⟨hz, A', c', he, ho⟩ | ⟨hz, he⟩
      · unfold gives at he; cases he
      · have hw : why = D.2 := by
          unfold gives brk at he
          simp only [Ending.panicked.injEq, List.cons.injEq, and_true, PanicEntry.mk.injEq, Value.iface.injEq, Value.agg.injEq, true_and] at he
          simpa using he
        subst hw
        refine ⟨_, rfl, by rw [hD hz]; exact Kd.R_nil _ _ _ _ _, ?_⟩
        exact ⟨hh.os.trans (hT.os.trans HB.os), hh.tape.trans (hT.tape.trans HB.tape), hh.output.trans (hT.output.trans HB.output), by have := hh.size; omega, fun k hk hr => (hh.block k (by omega) (by omega) (by omega)).trans (hB1 k hk hr)⟩
/-- bits.ReadKey, as a plain function. -/
def bits_ReadKey.f (a0 : ByteArray) : Option (List (S33) × Int) := if a0.size ≤ 4611686018427387904 then some (krun a0 17 0 []) else none
theorem krun_bad (s : ByteArray) : ∀ (k : Nat) (p : Int) (l : List S33), (krun s k p l).2 ≠ 0 → (krun s k p l).1 = []
  | 0, p, l, h => rfl
  | k + 1, p, l, h => by
    simp only [krun] at h ⊢
    by_cases h1 : p < (s.size : Int)
    · rw [if_pos h1] at h ⊢
      by_cases h2 : (l.length : Int) = 16
      · rw [if_pos h2]
      · rw [if_neg h2] at h ⊢
        by_cases h3 : (rdV s p).2.2 = 0
        · rw [if_pos h3] at h ⊢; exact krun_bad s k _ _ h
        · rw [if_neg h3]
    · rw [if_neg h1] at h; exact absurd rfl h
set_option maxRecDepth 100000 in
set_option maxHeartbeats 4000000 in
theorem bits_ReadKey.calls (a0 : ByteArray) (r1 : List (S33)) (r2 : Int) (w : World) (h : bits_ReadKey.f a0 = some (r1, r2)) :
    Calls Tryd.prog 18 #[.string a0] w fun e w' => ∃ v0_ : Value, e = .returned (.tuple #[v0_, .int .i64 r2]) ∧ Kd.R k33 33 w' w.heap.size (fun _ => True) v0_ r1 ∧ Below w.heap.size w w' := by
  unfold bits_ReadKey.f at h
  by_cases hs : a0.size ≤ 4611686018427387904
  · rw [if_pos hs] at h
    have HR := Aside0.mk (Option.some.inj h)
    have HS := Aside0.mk hs
    clear h hs
    obtain ⟨w3, e3⟩ : ∃ w3, w3 = (w.alloc (.cells #[.string a0] 9)).alloc (.cells #[.string a0, .int .i64 0] 65) := ⟨_, rfl⟩
    have z3 : w3.heap.size = w.heap.size + 2 := by rw [e3]; simp
    have b0 : w3.heap[w.heap.size]? = some (.cells #[.string a0] 9 (0, 0)) := by
      rw [e3]; exact (heap_alloc_old _ _ (by simp)).trans (heap_alloc_new _ _)
    have b1 : w3.heap[w.heap.size + 1]? = some (Rd a0 0) := by
      rw [e3]; simpa using heap_alloc_new (w.alloc (.cells #[.string a0] 9)) (.cells #[.string a0, .int .i64 0] 65)
    have HB : Aside0 (Below w.heap.size w w3) := ⟨by rw [e3]; exact below_alloc (below_alloc (Below.refl _ _) _) _⟩
    have b0' : ((w3.alloc (.cells #[.slice none 0 0] 22)).alloc (.cells #[.int .i64 0] 24)).heap[w.heap.size]? = some (.cells #[.string a0] 9 (0, 0)) := (heap_alloc_old _ _ (by simp; omega)).trans ((heap_alloc_old _ _ (by omega)).trans b0)
    have b1' : ((w3.alloc (.cells #[.slice none 0 0] 22)).alloc (.cells #[.int .i64 0] 24)).heap[w.heap.size + 1]? = some (Rd a0 0) := (heap_alloc_old _ _ (by simp; omega)).trans ((heap_alloc_old _ _ (by omega)).trans b1)
    have HI := Aside0.mk (gath_key (w.heap.size + 1) #[.pointer (some ⟨w.heap.size + 1, 0, none⟩), .pointer (some ⟨w.heap.size, 0, none⟩)] w3 (krun a0 17 0 []) (krun_bad a0 17 0 []) (by omega) (inner _ w.heap.size (w.heap.size + 1) a0 HS.out b0' b1' (by omega)))
    have HZ := Aside0.mk z3
    have E3 := Aside0.mk e3
    have c0 : _ = some (Value.string a0) := (blk_cell (heap_alloc_new w (.cells #[.string a0] 9)) 0).trans rfl
    have hmf : ∀ (fn : Fn) (first cap : Array Value) (w : World), (Instr.makeFunc fn first cap).run Tryd.prog w = .ok (.func fn first cap) w := fun _ _ _ _ => rfl
    clear b0 b1 b0' b1' z3 e3
    go_enter Tryd.func18, Tryd.ntmps18
    go_wp2_with fail
    rw [← E3.out]
    refine HI.out.mono ?_
    rintro e w4 ⟨v0, rfl, ho, hT⟩
    rw [HR.out] at ho
    rw [HR.out]
    have HL : Aside0 (Kd.R k33 33 w4 w.heap.size (fun _ => True) v0 r1 ∧ Below w.heap.size w w4) := ⟨Kd.R_lower ho (by have := HZ.out; omega), hT.below HB.out (by have := HZ.out; omega) (by omega)⟩
    clear ho hT c0
    go_wp2
    go_ret2
    exact ⟨_, rfl, HL.out⟩
  · rw [if_neg hs] at h
    cases h
end Go.Proofs.YtbekgkikgcmmaaaDoor.HBitK
