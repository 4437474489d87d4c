/- What a reader of layer 1 reads of a key: a number, a text, a value. -/
import Derived.Test.YtbekgkikgcmmaaaDoorHBitR
set_option linter.unusedVariables false
set_option linter.unusedSimpArgs false
namespace Go.Proofs.YtbekgkikgcmmaaaDoor.HBitV
open Go.RowKit Go.Proofs.YtbekgkikgcmmaaaDoor.PBit Go.Proofs.YtbekgkikgcmmaaaDoor.HBase Go.Proofs.YtbekgkikgcmmaaaDoorW.PrintWords Go.Proofs.YtbekgkikgcmmaaaDoorW.PrintLast Go.Proofs.YtbekgkikgcmmaaaDoorW.PrintMore Go.Proofs.YtbekgkikgcmmaaaDoor.HCore Go.Proofs.YtbekgkikgcmmaaaDoor.HBitR

/-- The number that n bytes tell, each laid over with t, the highest first. -/
def bigv (s : ByteArray) (p t : Int) : Nat → Int
  | 0 => 0
  | i + 1 => bigv s p t i * 256 + Go.bits .xor .u8 (bt s (p + i)) t
theorem xor_rng (a t : Int) (ha : 0 ≤ a ∧ a < 256) (ht : t = 0 ∨ t = 255) : 0 ≤ Go.bits .xor .u8 a t ∧ Go.bits .xor .u8 a t < 256 := by
  obtain ⟨n, rfl⟩ := Int.eq_ofNat_of_zero_le ha.1
  have hn : n < 256 := by omega
  have key : ∀ m : Nat, m < 256 → (0 ≤ Go.bits .xor .u8 (m : Int) 0 ∧ Go.bits .xor .u8 (m : Int) 0 < 256) ∧ (0 ≤ Go.bits .xor .u8 (m : Int) 255 ∧ Go.bits .xor .u8 (m : Int) 255 < 256) := by decide +kernel
  rcases ht with rfl | rfl
  · exact (key n hn).1
  · exact (key n hn).2
theorem bigv_rng (s : ByteArray) (p t : Int) (ht : t = 0 ∨ t = 255) : ∀ i : Nat, 0 ≤ bigv s p t i ∧ bigv s p t i < 256 ^ i
  | 0 => ⟨by simp [bigv], by simp [bigv]⟩
  | i + 1 => by
    obtain ⟨h0, h1⟩ := bigv_rng s p t ht i
    have hx := xor_rng (bt s (p + i)) t (by have := bt_rng s (p + i); omega) ht
    have e : (256 : Int) ^ (i + 1) = 256 ^ i * 256 := by rw [Int.pow_succ]
    simp only [bigv]
    constructor
    · omega
    · rw [e]; omega
theorem pow256 (i j : Nat) (h : i ≤ j) : (256 : Int) ^ i ≤ 256 ^ j := by
  have h : (256 : Nat) ^ i ≤ 256 ^ j := Nat.pow_le_pow_right (by decide) h
  have e : ∀ k : Nat, (256 : Int) ^ k = ((256 ^ k : Nat) : Int) := fun k => by rw [Int.natCast_pow]; rfl
  rw [e i, e j]
  exact Int.ofNat_le.2 h
theorem bigv_lt (s : ByteArray) (p t : Int) (ht : t = 0 ∨ t = 255) (i : Nat) : 0 ≤ bigv s p t i ∧ (i < 8 → bigv s p t i < 72057594037927936) ∧ (i ≤ 8 → bigv s p t i < 18446744073709551616) := by
  obtain ⟨a, b⟩ := bigv_rng s p t ht i
  refine ⟨a, fun h => Int.lt_of_lt_of_le b ?_, fun h => Int.lt_of_lt_of_le b ?_⟩
  · exact pow256 i 7 (by omega)
  · exact pow256 i 8 h
theorem xor_m1_i64 {x : Int} (h0 : 0 ≤ x) (h1 : x ≤ 9223372036854775807) : Go.bits .xor .i64 (-1) x = -1 - x := by
  rw [← xor_i64_m1 h0 h1]
  show IntKind.i64.wrap ((BitVec.ofInt 64 (-1) ^^^ BitVec.ofInt 64 x).toNat : Int) = IntKind.i64.wrap ((BitVec.ofInt 64 x ^^^ BitVec.ofInt 64 (-1)).toNat : Int)
  rw [BitVec.xor_comm]
theorem or_step (u c : Int) (h0 : 0 ≤ u) (h1 : u < 72057594037927936) (hc : 0 ≤ c ∧ c < 256) : Go.bits .or .u64 (IntKind.u64.wrap (u * 256)) c = u * 256 + c := by
  rw [wu64 (n := u * 256) (by omega) (by omega), u64_or _ _ (by omega) (by omega) (by omega) (by omega), nat_join 8 _ _ (by omega) (by omega)]
  omega
/-- A number of a key. -/
def rdI (s : ByteArray) (p t : Int) (n : Nat) : Int × Int × Int :=
  if (s.size : Int) - p < n then (0, 0, 11) else
  if 0 < n ∧ Go.bits .xor .u8 (bt s p) t = 0 then (0, 0, 13) else
  if bigv s p t n > 9223372036854775807 then (0, 0, 10) else
  (if t = 0 then bigv s p t n else -1 - bigv s p t n, p + n, 0)
set_option maxRecDepth 100000 in
set_option maxHeartbeats 1000000 in
theorem integer_any (g : Nat) (s : ByteArray) (p : Int) (w : World) (h : w.heap[g]? = some (Rd s p)) (hs : s.size ≤ 4611686018427387904) (hp : 0 ≤ p) (hps : p ≤ (s.size : Int)) (n : Nat) (hn : n ≤ 8) (t : Int) (ht : t = 0 ∨ t = 255) (v q e0 : Int) (hr : rdI s p t n = (v, q, e0)) :
    Calls Tryd.prog 69 #[.pointer (some ⟨g, 0, none⟩), .int .i64 n, .int .u8 t] w fun e w' => Turn g w w' ∧ ((e0 = 0 ∧ e = .returned (valV ⟨2, v, (⟨#[]⟩ : ByteArray)⟩) ∧ w'.heap[g]? = some (Rd s q)) ∨ (e0 ≠ 0 ∧ e = gives e0)) := by
  have HV := Aside0.mk (Vs.start h)
  clear h
  have HG := Aside0.mk hps
  clear hps
  unfold rdI at hr
  by_cases hsh : (s.size : Int) - p < n
  · rw [if_pos hsh] at hr
    cases hr
    have hb : decide ((s.size : Int) - p < (n : Int)) = true := decide_eq_true hsh
    have hw : IntKind.i64.wrap ((s.size : Int) - p) = (s.size : Int) - p := IntWalk.i64_in _ (by have := HG.out; omega)
    obtain ⟨⟨y0, y1, y2⟩, ⟨f0, f1, f2⟩, x0, x1, x2⟩ := HV.out.c
    clear hsh y0 y1 y2 f0 f1 f2 x2
    go_enter Tryd.func69, Tryd.ntmps69
    go_wp2
    generalize w.alloc _ = wd at *
    go_still_tail 13, (by kernel_rfl)
    change wpList _ _ _ _ _ (World.drew _)
    go_wp2_with (go_at_call 37; refine (fail_gone _ _ _).mono ?_; rintro e w1 ⟨he, rfl⟩; unfold gives at he; subst he)
    go_wp2
    exact ⟨rfl, (HV.out.drawn ⟨⟨1, rfl⟩⟩).turn, Or.inr ⟨by decide, rfl⟩⟩
  · rw [if_neg hsh] at hr
    have HR := Aside0.mk hr
    clear hr
    have HH := Aside0.mk hsh
    have hb : decide ((s.size : Int) - p < (n : Int)) = false := decide_eq_false hsh
    have hw : IntKind.i64.wrap ((s.size : Int) - p) = (s.size : Int) - p := IntWalk.i64_in _ (by have := HG.out; omega)
    obtain ⟨⟨y0, y1, y2⟩, ⟨f0, f1, f2⟩, x0, x1, x2⟩ := HV.out.c
    clear hsh y0 y1 y2 f0 f1 f2 x2
    go_enter Tryd.func69, Tryd.ntmps69
    go_wp2
    go_quiet ((go_at_call 37; exact Calls.quiet_of_same (fail_ok _ _ _)))
    have HV := Aside0.mk (HV.out.drawn ⟨⟨nq, rfl⟩⟩)
    generalize World.drewN _ nq = wd at *
    clear x0 x1 hb hw
    go_wp2
    have HC : Aside0 (0 < (0 : Nat) → Go.bits .xor .u8 (bt s p) t ≠ 0) := ⟨fun h => absurd h (by decide)⟩
    have hr0 := ht
    go_loopw [7, 26] (fun v7 v26 wr => ∃ i : Nat, i ≤ n ∧ v26 = .int .i64 (i : Int) ∧ v7 = .int .u64 (bigv s p t i) ∧ Aside0 (0 < i → Go.bits .xor .u8 (bt s p) t ≠ 0) ∧ Aside0 (Vs w g s (p + i) wr)) (fun _ v26 _ => n - (intOf v26).toNat)
    case atStart => exact ⟨0, by omega, rfl, rfl, HC, ⟨by simpa using HV.out⟩⟩
    case round =>
      clear HV HC
      obtain ⟨i, hi, rfl, rfl, HC, HV⟩ := hrel
      by_cases hlt : i < n
      · have hb : decide ((i : Int) < (n : Int)) = true := decide_eq_true (by omega)
        have hb' : decide (i < n) = true := decide_eq_true hlt
        have hbt := bt_rng s (p + i)
        have hx := xor_rng (bt s (p + i)) t (by omega) ht
        obtain ⟨b0, b1⟩ := bigv_rng s p t ht i
        go_wp2_with fail
        refine (next_ok g s (p + i) _ HV.out.rdr hs (by omega) (by have := HH.out; have := HG.out; omega)).mono ?_
        rintro e w4 ⟨rfl, ht4, hg4⟩
        have HV := Aside0.mk (HV.out.reads ht4 hg4)
        clear ht4 hg4
        have hsn : bigv s p t (i + 1) = bigv s p t i * 256 + Go.bits .xor .u8 (bt s (p + i)) t := rfl
        have HZ : Aside0 (i = 0 → Go.bits .xor .u8 (bt s p) t = Go.bits .xor .u8 (bt s (p + i)) t) := ⟨fun e => by subst e; rw [show p + ((0 : Nat) : Int) = p by omega]⟩
        generalize bt s (p + i) = b at hbt hx hsn HZ ⊢
        have HN := Aside0.mk hsn
        have HO := Aside0.mk (or_step (bigv s p t i) (Go.bits .xor .u8 b t) b0 (bigv_lt s p t ht i |>.2.1 (by omega)) hx)
        clear hsn hb hb' hbt
        have done : i = 0 → Go.bits .xor .u8 b t = 0 → e0 = 13 := by
          intro z1 z2
          have hR := HR.out
          rw [if_pos ⟨by omega, (HZ.out z1).trans z2⟩] at hR
          cases hR
          rfl
        have HD := Aside0.mk done
        clear done
        by_cases hz : i = 0
        · have hi0 : ((i : Int) == 0) = true := beq_iff_eq.2 (by omega)
          have hi1 : (i == 0) = true := beq_iff_eq.2 hz
          by_cases hc : Go.bits .xor .u8 b t = 0
          · have hcb : (Go.bits .xor .u8 b t == 0) = true := beq_iff_eq.2 hc
            have he := HD.out hz hc
            subst he
            go_wp2_with (go_at_call 37; refine (fail_gone _ _ _).mono ?_; rintro e w2 ⟨he, rfl⟩; unfold gives at he; subst he)
            go_wp2
            exact ⟨rfl, HV.out.turn, Or.inr ⟨by decide, rfl⟩⟩
          · have hcb : (Go.bits .xor .u8 b t == 0) = false := beq_eq_false_iff_ne.2 hc
            have HC : Aside0 (0 < i + 1 → Go.bits .xor .u8 (bt s p) t ≠ 0) := ⟨fun _ => by rw [HZ.out hz]; exact hc⟩
            go_wp2_with (go_at_call 37; refine (fail_ok _ _ _).mono ?_; rintro e w2 ⟨rfl, rfl⟩)
            clear hi0 hi1 hcb
            go_wp2
            go_roundw
            case rel =>
              refine ⟨i + 1, by omega, ?_, ?_, HC, ⟨?_⟩⟩
              · rw [hz]; rfl
              · rw [HN.out, ← HO.out, hz]
              · rw [show p + ((i + 1 : Nat) : Int) = p + i + 1 by omega]; exact HV.out
            case measure => simp [intOf]; omega
        · have hi0 : ((i : Int) == 0) = false := beq_eq_false_iff_ne.2 (by omega)
          have hi1 : (i == 0) = false := beq_eq_false_iff_ne.2 hz
          have HC : Aside0 (0 < i + 1 → Go.bits .xor .u8 (bt s p) t ≠ 0) := ⟨fun _ => HC.out (by omega)⟩
          go_wp2_with (go_at_call 37; refine (fail_ok _ _ _).mono ?_; rintro e w2 ⟨rfl, rfl⟩)
          clear hi0 hi1
          go_wp2
          go_roundw
          case rel =>
            refine ⟨i + 1, by omega, ?_, ?_, HC, ⟨?_⟩⟩
            · rfl
            · rw [HN.out, HO.out]
            · rw [show p + ((i + 1 : Nat) : Int) = p + i + 1 by omega]; exact HV.out
          case measure => simp [intOf]; omega
      · obtain rfl : i = n := by omega
        have hR := HR.out
        rw [if_neg (fun h => HC.out h.1 h.2)] at hR
        by_cases hbig : bigv s p t i > 9223372036854775807
        · rw [if_pos hbig] at hR
          cases hR
          have hb : decide (9223372036854775807 < bigv s p t i) = true := decide_eq_true hbig
          go_wp2_with (go_at_call 37; refine (fail_gone _ _ _).mono ?_; rintro e w2 ⟨he, rfl⟩; unfold gives at he; subst he)
          go_wp2
          exact ⟨rfl, HV.out.turn, Or.inr ⟨by decide, rfl⟩⟩
        · rw [if_neg hbig] at hR
          have hb : decide (9223372036854775807 < bigv s p t i) = false := decide_eq_false hbig
          obtain ⟨b0, _, b1⟩ := bigv_lt s p t ht i
          have hw : IntKind.i64.wrap (bigv s p t i) = bigv s p t i := IntWalk.i64_in _ (by omega)
          obtain ⟨⟨y0, y1, y2⟩, ⟨f0, f1, f2⟩, _⟩ := HV.out.c
          rcases ht with rfl | rfl
          · cases hR
            go_wp2_with (go_at_call 37; refine (fail_ok _ _ _).mono ?_; rintro e w2 ⟨rfl, rfl⟩)
            exact val_ret (t := 6) (b := w.heap.size) (x := ⟨2, _, (⟨#[]⟩ : ByteArray)⟩) rfl rfl (put3_heap HV.out.res ⟨2, _, (⟨#[]⟩ : ByteArray)⟩) rfl ⟨(HV.out.put ⟨2, _, (⟨#[]⟩ : ByteArray)⟩).1, rfl, (HV.out.put ⟨2, _, (⟨#[]⟩ : ByteArray)⟩).2⟩
          · cases hR
            have hxx : Go.bits .xor .i64 (-1) (bigv s p 255 i) = -1 - bigv s p 255 i := xor_m1_i64 b0 (by omega)
            go_wp2_with (go_at_call 37; refine (fail_ok _ _ _).mono ?_; rintro e w2 ⟨rfl, rfl⟩)
            exact val_ret (t := 6) (b := w.heap.size) (x := ⟨2, _, (⟨#[]⟩ : ByteArray)⟩) rfl rfl (put3_heap HV.out.res ⟨2, _, (⟨#[]⟩ : ByteArray)⟩) rfl ⟨(HV.out.put ⟨2, _, (⟨#[]⟩ : ByteArray)⟩).1, rfl, (HV.out.put ⟨2, _, (⟨#[]⟩ : ByteArray)⟩).2⟩
/-- A text of a key, escaped. -/
def esc (s : ByteArray) : Nat → Int → List Int → ByteArray × Int × Int
  | 0, _, _ => ((⟨#[]⟩ : ByteArray), 0, 11)
  | k + 1, p, l =>
    if p < (s.size : Int) then
      (if bt s p = 0 then
        (if p + 1 < (s.size : Int) then
          (if bt s (p + 1) = 1 then (strOfNums l, p + 2, 0) else
            (if bt s (p + 1) = 255 then (if (l.length : Int) = 4096 then ((⟨#[]⟩ : ByteArray), 0, 4) else esc s k (p + 2) (l ++ [bt s p])) else ((⟨#[]⟩ : ByteArray), 0, 15)))
        else ((⟨#[]⟩ : ByteArray), 0, 11))
      else (if (l.length : Int) = 4096 then ((⟨#[]⟩ : ByteArray), 0, 4) else esc s k (p + 1) (l ++ [bt s p])))
    else ((⟨#[]⟩ : ByteArray), 0, 11)
/-- What stands while an escaped text is read: the bytes so far in a row that blocks of its own hold. -/
structure Es (w : World) (g : Nat) (s : ByteArray) (p : Int) (u : Value) (l : List Int) (wr : World) : Prop where
  vs : Vs w g s p wr
  own : Kd.R (Kd.int .u8) 5 wr w.heap.size (fun _ => True) u l
section
variable {w wr wr' : World} {g : Nat} {s : ByteArray} {p q : Int} {u : Value} {l : List Int}
theorem Es.reads (h : Es w g s p u l wr) (ht : Turn g wr wr') (hr : wr'.heap[g]? = some (Rd s q)) : Es w g s q u l wr' :=
  ⟨h.vs.reads ht hr, Kd.R_mono (Kd.R_keep (Kd.R_types h.own h.vs.rdr (by decide)) (g := g) ⟨ht.size, fun i hi hg _ => ht.block i hi hg⟩ (fun _ hk => hk.2)) (fun _ _ => trivial)⟩
theorem Es.below (h : Es w g s p u l wr) (hb : Below wr.heap.size wr wr') : Es w g s p u l wr' := ⟨h.vs.below hb, Kd.R_below h.own hb⟩
theorem Es.drawn (h : Es w g s p u l wr) (hd : Drawn0 wr wr') : Es w g s p u l wr' := h.below hd.below
theorem Es.more (h : Es w g s p u l wr) {u' : Value} {l' : List Int} (hb : Below w.heap.size wr wr') (hg : wr.grownBy wr' u.ownBlock) (ho : Kd.R (Kd.int .u8) 5 wr' w.heap.size (fun _ => True) u' l') : Es w g s p u' l' wr' :=
  ⟨⟨⟨hb.os.trans h.vs.turn.os, hb.tape.trans h.vs.turn.tape, hb.output.trans h.vs.turn.output, Nat.le_trans h.vs.turn.size hb.size, fun k hk hc => (hb.block k hk).trans (h.vs.turn.block k hk hc)⟩,
    (hb.block _ h.vs.lt).trans h.vs.rdr, blk_grown h.vs.res hg (Kd.R_ne h.own h.vs.res (by decide)), h.vs.lt⟩, ho⟩
end
set_option maxRecDepth 100000 in
set_option maxHeartbeats 4000000 in
theorem escaped_any (g : Nat) (s : ByteArray) (p : Int) (w : World) (h : w.heap[g]? = some (Rd s p)) (hs : s.size ≤ 4611686018427387904) (hp : 0 ≤ p) (hps : p ≤ (s.size : Int)) (v : ByteArray) (q e0 : Int) (hr : esc s (s.size + 1) p [] = (v, q, e0)) :
    Calls Tryd.prog 70 #[.pointer (some ⟨g, 0, none⟩)] w fun e w' => Turn g w w' ∧ ((e0 = 0 ∧ e = .returned (valV ⟨3, 0, v⟩) ∧ w'.heap[g]? = some (Rd s q)) ∨ (e0 ≠ 0 ∧ e = gives e0)) := by
  have HV : Aside0 (Es w g s p (.slice none 0 0) [] (w.alloc (.cells #[.int .i64 0, .int .i64 0, .string (⟨#[]⟩ : ByteArray)] 33))) := ⟨⟨Vs.start h, Kd.R_nil _ _ _ _ _⟩⟩
  have HR := Aside0.mk hr
  have HS := Aside0.mk hs
  clear h hr
  go_enter Tryd.func70, Tryd.ntmps70
  go_wp2
  go_loopg [3] (s.size + 1) (fun gk v3 wr => ∃ (p : Int) (l : List Int), Aside0 (0 ≤ p ∧ p ≤ (s.size : Int) ∧ (s.size : Int) < p + gk ∧ l.length ≤ 4096) ∧ Aside0 (Es w g s p v3 l wr) ∧ Aside0 (esc s gk p l = (v, q, e0)))
  case atStart => exact ⟨p, [], ⟨by omega, by omega, by omega, by simp⟩, HV, HR⟩
  case round =>
    clear HV HR hp hps p
    obtain ⟨p, l, HP, HV, HR⟩ := hrel
    have hR := HR.out
    obtain ⟨hp0, hps, hpk, hpl⟩ := HP.out
    cases gk with
    | zero => exact absurd hpk (by omega)
    | succ k =>
      simp only [esc] at hR
      clear HR
      by_cases hlt : p < (s.size : Int)
      · rw [if_pos hlt] at hR
        have HR := Aside0.mk hR
        clear hR
        obtain ⟨A, c, hv⟩ := Kd.R_slice HV.out.own
        subst hv
        go_wp2_with fail
        refine (next_ok g s p _ HV.out.vs.rdr hs hp0 hlt).mono ?_
        rintro e w1 ⟨rfl, ht, hg⟩
        have HV := Aside0.mk (HV.out.reads ht hg)
        have HL := Aside0.mk hlt
        clear ht hg hp0 hps hpk hpl hlt
        by_cases hz : bt s p = 0
        · have hzb : (bt s p == 0) = true := beq_iff_eq.2 hz
          have hR := HR.out
          rw [if_pos hz] at hR
          have HZ := Aside0.mk hz
          clear HR hz
          by_cases hlt2 : p + 1 < (s.size : Int)
          · rw [if_pos hlt2] at hR
            have HR := Aside0.mk hR
            clear hR
            go_wp2_with fail
            refine (next_ok g s (p + 1) _ HV.out.vs.rdr hs (by have := HP.out; omega) hlt2).mono ?_
            rintro e w2 ⟨rfl, ht, hg⟩
            have HV := Aside0.mk (HV.out.reads ht hg)
            clear ht hg hzb
            by_cases h1 : bt s (p + 1) = 1
            · have hb1 : (bt s (p + 1) == 1) = true := beq_iff_eq.2 h1
              have hR := HR.out
              rw [if_pos h1] at hR
              cases hR
              have hcv := own_string (P := Tryd.prog) Tryd.underlying52 Tryd.underlying5 Tryd.underlying9 (Kd.own_of_R HV.out.own)
              obtain ⟨⟨y0, y1, y2⟩, ⟨f0, f1, f2⟩, _⟩ := HV.out.vs.c
              go_wp2_with fail
              exact val_ret (t := 2) (b := w.heap.size) (x := ⟨3, 0, _⟩) rfl rfl (put3_heap HV.out.vs.res ⟨3, 0, _⟩) rfl ⟨(HV.out.vs.put ⟨3, 0, _⟩).1, rfl, by rw [show p + 2 = p + 1 + 1 by omega]; exact (HV.out.vs.put ⟨3, 0, _⟩).2⟩
            · have hb1 : (bt s (p + 1) == 1) = false := beq_eq_false_iff_ne.2 h1
              have hR := HR.out
              rw [if_neg h1] at hR
              clear HR h1
              by_cases h2 : bt s (p + 1) = 255
              · have hb2 : (bt s (p + 1) == 255) = true := beq_iff_eq.2 h2
                rw [if_pos h2] at hR
                have HR := Aside0.mk hR
                have HL := Aside0.mk hlt2
                clear hR h2 hlt2
                by_cases hf : (l.length : Int) = 4096
                · have hb4 : ((l.length : Int) == 4096) = true := beq_iff_eq.2 hf
                  have hb5 : (l.length == 4096) = true := beq_iff_eq.2 (by omega)
                  have hR := HR.out
                  rw [if_pos hf] at hR
                  cases hR
                  go_wp2_with (go_at_call 37; refine (fail_gone _ _ _).mono ?_; rintro e w3 ⟨he, rfl⟩; unfold gives at he; subst he)
                  go_wp2
                  exact ⟨rfl, HV.out.vs.turn, Or.inr ⟨by decide, rfl⟩⟩
                · have hb4 : ((l.length : Int) == 4096) = false := beq_eq_false_iff_ne.2 hf
                  have hb5 : (l.length == 4096) = false := beq_eq_false_iff_ne.2 (by omega)
                  have hR := HR.out
                  rw [if_neg hf] at hR
                  have HR := Aside0.mk hR
                  have HF := Aside0.mk hf
                  clear hR hf
                  go_wp2_with (first | (go_at_call 37; refine (fail_ok _ _ _).mono ?_; rintro e w3 ⟨rfl, rfl⟩) | ((with_reducible refine gate_builtin (b := .append) (xs := #[.tmp 25, .tmp 27]) rfl ?_); go_loud (at_builtin; refine Kd.R_append (Kd.int .u8) (w0 := w3) w.heap.size rfl (.tmp 25) (.tmp 27) 52 5 (.int .u8 0) 1 rfl Tryd.underlying52 info5 rfl (by decide) (by omega) (.slice A l.length c) l (bt s p) [.int .u8 (bt s p)] (fun _ => True) (fun _ => False) rfl (by first | (go_simp; done) | (go_simp; rfl)) ?aP (fun _ hk => hk.elim) ?aF ?aO ?aB ?aS ?aL ?_; (case aP => exact rfl); (case aF => exact (fun _ _ => trivial)); (case aO => exact HV.out.own); (case aB => exact Below.refl _ _); (case aS => exact HV.out.vs.turn.size); (case aL => have := HP.out; omega); intro u' w4 ho hb hg hat; have HV := Aside0.mk (HV.out.more hb hg ho); clear ho hb hg hat)))
                  go_roundg k
                  case measure => omega
                  case rel => exact ⟨p + 2, l ++ [bt s p], ⟨by have := HP.out; have := HF.out; have := HL.out; rw [List.length_append, List.length_singleton]; omega⟩, by rw [show p + 2 = p + 1 + 1 by omega]; exact HV, HR⟩
              · have hb2 : (bt s (p + 1) == 255) = false := beq_eq_false_iff_ne.2 h2
                rw [if_neg h2] at hR
                cases hR
                go_wp2_with (go_at_call 37; refine (fail_gone _ _ _).mono ?_; rintro e w3 ⟨he, rfl⟩; unfold gives at he; subst he)
                go_wp2
                exact ⟨rfl, HV.out.vs.turn, Or.inr ⟨by decide, rfl⟩⟩
          · rw [if_neg hlt2] at hR
            cases hR
            go_wp2_with fail
            refine (next_gone g s (p + 1) _ HV.out.vs.rdr (Int.not_lt.2 hlt2)).mono ?_
            rintro e w2 ⟨he, hd⟩
            unfold gives at he
            subst he
            have HV := Aside0.mk (HV.out.drawn hd)
            clear hd
            go_wp2
            exact ⟨rfl, HV.out.vs.turn, Or.inr ⟨by decide, rfl⟩⟩
        · have hzb : (bt s p == 0) = false := beq_eq_false_iff_ne.2 hz
          have hR := HR.out
          rw [if_neg hz] at hR
          have HR := Aside0.mk hR
          have HZ := Aside0.mk hz
          clear hz hR
          by_cases hf : (l.length : Int) = 4096
          · have hb4 : ((l.length : Int) == 4096) = true := beq_iff_eq.2 hf
            have hb5 : (l.length == 4096) = true := beq_iff_eq.2 (by omega)
            have hR := HR.out
            rw [if_pos hf] at hR
            cases hR
            go_wp2_with (go_at_call 37; refine (fail_gone _ _ _).mono ?_; rintro e w3 ⟨he, rfl⟩; unfold gives at he; subst he)
            go_wp2
            exact ⟨rfl, HV.out.vs.turn, Or.inr ⟨by decide, rfl⟩⟩
          · have hb4 : ((l.length : Int) == 4096) = false := beq_eq_false_iff_ne.2 hf
            have hb5 : (l.length == 4096) = false := beq_eq_false_iff_ne.2 (by omega)
            have hR := HR.out
            rw [if_neg hf] at hR
            have HR := Aside0.mk hR
            have HF := Aside0.mk hf
            clear hR hf
            go_wp2_with (first | (go_at_call 37; refine (fail_ok _ _ _).mono ?_; rintro e w3 ⟨rfl, rfl⟩) | ((with_reducible refine gate_builtin (b := .append) (xs := #[.tmp 25, .tmp 27]) rfl ?_); go_loud (at_builtin; refine Kd.R_append (Kd.int .u8) (w0 := w3) w.heap.size rfl (.tmp 25) (.tmp 27) 52 5 (.int .u8 0) 1 rfl Tryd.underlying52 info5 rfl (by decide) (by omega) (.slice A l.length c) l (bt s p) [.int .u8 (bt s p)] (fun _ => True) (fun _ => False) rfl (by first | (go_simp; done) | (go_simp; rfl)) ?aP (fun _ hk => hk.elim) ?aF ?aO ?aB ?aS ?aL ?_; (case aP => exact rfl); (case aF => exact (fun _ _ => trivial)); (case aO => exact HV.out.own); (case aB => exact Below.refl _ _); (case aS => exact HV.out.vs.turn.size); (case aL => have := HP.out; omega); intro u' w4 ho hb hg hat; have HV := Aside0.mk (HV.out.more hb hg ho); clear ho hb hg hat)))
            go_roundg k
            case measure => omega
            case rel => exact ⟨p + 1, l ++ [bt s p], ⟨by have := HP.out; have := HF.out; have := HL.out; rw [List.length_append, List.length_singleton]; omega⟩, HV, HR⟩
      · rw [if_neg hlt] at hR
        cases hR
        go_wp2_with fail
        refine (next_gone g s p _ HV.out.vs.rdr (Int.not_lt.2 hlt)).mono ?_
        rintro e w2 ⟨he, hd⟩
        unfold gives at he
        subst he
        have HV := Aside0.mk (HV.out.drawn hd)
        clear hd
        go_wp2
        exact ⟨rfl, HV.out.vs.turn, Or.inr ⟨by decide, rfl⟩⟩
/-- A value of a key. -/
def rdV (s : ByteArray) (p : Int) : S33 × Int × Int :=
  if p < (s.size : Int) then
    (if bt s p = 16 then (z33, p + 1, 0) else
    if bt s p = 32 ∨ bt s p = 33 then (⟨1, bt s p - 32, (⟨#[]⟩ : ByteArray)⟩, p + 1, 0) else
    if 56 ≤ bt s p ∧ bt s p ≤ 64 then (⟨2, (rdI s (p + 1) 0 (bt s p - 56).toNat).1, (⟨#[]⟩ : ByteArray)⟩, (rdI s (p + 1) 0 (bt s p - 56).toNat).2) else
    if bt s p < 56 ∧ 47 ≤ bt s p then (⟨2, (rdI s (p + 1) 255 (55 - bt s p).toNat).1, (⟨#[]⟩ : ByteArray)⟩, (rdI s (p + 1) 255 (55 - bt s p).toNat).2) else
    if bt s p = 80 then (⟨3, 0, (esc s (s.size + 1) (p + 1) []).1⟩, (esc s (s.size + 1) (p + 1) []).2) else (z33, 0, 14))
  else (z33, 0, 11)
/-- What a reader leaves: a value, or an end by panic. -/
def LeftV (g : Nat) (s : ByteArray) (w : World) (x : S33) (q e0 : Int) (e : Ending) (w' : World) : Prop :=
  Turn g w w' ∧ ((e0 = 0 ∧ e = .returned (valV x) ∧ w'.heap[g]? = some (Rd s q)) ∨ (e0 ≠ 0 ∧ e = gives e0))
set_option maxRecDepth 100000 in
set_option maxHeartbeats 4000000 in
theorem value_any (g : Nat) (s : ByteArray) (p : Int) (w : World) (h : w.heap[g]? = some (Rd s p)) (hs : s.size ≤ 4611686018427387904) (hp : 0 ≤ p) (x : S33) (q e0 : Int) (hr : rdV s p = (x, q, e0)) :
    Calls Tryd.prog 38 #[.pointer (some ⟨g, 0, none⟩)] w fun e w' => LeftV g s w x q e0 e w' := by
  have HV := Aside0.mk (Vs.start h)
  clear h
  unfold LeftV
  unfold rdV at hr
  by_cases hlt : p < (s.size : Int)
  · rw [if_pos hlt] at hr
    have HR := Aside0.mk hr
    have HL := Aside0.mk hlt
    clear hr
    go_enter Tryd.func38, Tryd.ntmps38
    go_wp2_with fail
    refine (next_ok g s p _ HV.out.rdr hs hp hlt).mono ?_
    rintro e w1 ⟨rfl, ht, hg⟩
    have HV := Aside0.mk (HV.out.reads ht hg)
    clear ht hg hlt
    have hbt := bt_rng s p
    generalize bt s p = c at HR hbt ⊢
    have hw : IntKind.i64.wrap c = c := IntWalk.i64_in _ (by omega)
    by_cases h16 : c = 16
    · subst h16
      have hR := HR.out
      rw [if_pos rfl] at hR
      cases hR
      obtain ⟨⟨y0, y1, y2⟩, ⟨f0, f1, f2⟩, _⟩ := HV.out.c
      go_wp2_with fail
      exact val_ret (t := 2) (b := w.heap.size) (x := z33) rfl rfl (put3_heap HV.out.res z33) rfl ⟨(HV.out.put z33).1, rfl, (HV.out.put z33).2⟩
    · have b16 : (c == 16) = false := beq_eq_false_iff_ne.2 h16
      have hR := HR.out
      rw [if_neg h16] at hR
      clear HR
      by_cases h32 : c = 32 ∨ c = 33
      · rw [if_pos h32] at hR
        cases hR
        have H32 : Aside0 (c = 32 ∨ c = 33) := ⟨h32⟩
        obtain ⟨⟨y0, y1, y2⟩, ⟨f0, f1, f2⟩, _⟩ := HV.out.c
        clear h16 b16 h32 hw hbt
        rcases H32.out with rfl | rfl
        · go_wp2_with fail
          exact val_ret (t := 2) (b := w.heap.size) (x := ⟨1, 0, (⟨#[]⟩ : ByteArray)⟩) rfl rfl (put3_heap HV.out.res ⟨1, 0, (⟨#[]⟩ : ByteArray)⟩) rfl ⟨(HV.out.put ⟨1, 0, (⟨#[]⟩ : ByteArray)⟩).1, rfl, (HV.out.put ⟨1, 0, (⟨#[]⟩ : ByteArray)⟩).2⟩
        · go_wp2_with fail
          exact val_ret (t := 2) (b := w.heap.size) (x := ⟨1, 1, (⟨#[]⟩ : ByteArray)⟩) rfl rfl (put3_heap HV.out.res ⟨1, 1, (⟨#[]⟩ : ByteArray)⟩) rfl ⟨(HV.out.put ⟨1, 1, (⟨#[]⟩ : ByteArray)⟩).1, rfl, (HV.out.put ⟨1, 1, (⟨#[]⟩ : ByteArray)⟩).2⟩
      · have b32 : (c == 32) = false := beq_eq_false_iff_ne.2 (fun h => h32 (Or.inl h))
        have b33 : (c == 33) = false := beq_eq_false_iff_ne.2 (fun h => h32 (Or.inr h))
        rw [if_neg h32] at hR
        clear h32 h16
        by_cases h56 : 56 ≤ c
        · have b56 : decide (56 ≤ c) = true := decide_eq_true h56
          have b56' : decide (c < 56) = false := decide_eq_false (by omega)
          by_cases h64 : c ≤ 64
          · have b64 : decide (c ≤ 64) = true := decide_eq_true h64
            rw [if_pos ⟨h56, h64⟩] at hR
            obtain ⟨n, hn⟩ : ∃ n : Nat, c = 56 + n := ⟨(c - 56).toNat, by omega⟩
            subst hn
            rw [show ((56 : Int) + n - 56).toNat = n by omega] at hR
            obtain ⟨v, q1, e1, hr1⟩ : ∃ v q e, rdI s (p + 1) 0 n = (v, q, e) := ⟨_, _, _, rfl⟩
            rw [hr1] at hR
            cases hR
            have hw2 : IntKind.i64.wrap (56 + (n : Int) - 56) = (n : Int) := by rw [IntWalk.i64_in _ (by omega)]; omega
            have HI := Aside0.mk (integer_any g s (p + 1) w1 HV.out.rdr hs (by omega) (by have := HL.out; omega) n (by omega) 0 (Or.inl rfl) v q e0 hr1)
            clear hr1 h56 h64 hbt
            go_wp2_with fail
            refine HI.out.mono ?_
            rintro e w2 ⟨ht, hh⟩
            rcases hh with ⟨rfl, rfl, hg⟩ | ⟨hne, he⟩
            · have HV := Aside0.mk (HV.out.reads ht hg)
              clear ht hg
              obtain ⟨⟨y0, y1, y2⟩, ⟨f0, f1, f2⟩, _⟩ := HV.out.c
              go_wp2_with fail
              exact val_ret (t := 2) (b := w.heap.size) (x := ⟨2, v, (⟨#[]⟩ : ByteArray)⟩) rfl rfl (put3_heap HV.out.res ⟨2, v, (⟨#[]⟩ : ByteArray)⟩) rfl ⟨(HV.out.put ⟨2, v, (⟨#[]⟩ : ByteArray)⟩).1, rfl, (HV.out.put ⟨2, v, (⟨#[]⟩ : ByteArray)⟩).2⟩
            · have HN := Aside0.mk hne
              have HT := Aside0.mk (HV.out.turn.trans ht)
              unfold gives at he
              subst he
              clear ht hne
              go_wp2
              exact ⟨rfl, HT.out, Or.inr ⟨HN.out, rfl⟩⟩
          · have b64 : decide (c ≤ 64) = false := decide_eq_false h64
            rw [if_neg (fun h => h64 h.2), if_neg (fun h => Int.not_lt.2 h56 h.1)] at hR
            clear h56 hbt
            by_cases h80 : c = 80
            · have b80 : (c == 80) = true := beq_iff_eq.2 h80
              rw [if_pos h80] at hR
              obtain ⟨v, q1, e1, hr1⟩ : ∃ v q e, esc s (s.size + 1) (p + 1) [] = (v, q, e) := ⟨_, _, _, rfl⟩
              rw [hr1] at hR
              cases hR
              have HI := Aside0.mk (escaped_any g s (p + 1) w1 HV.out.rdr hs (by omega) (by have := HL.out; omega) v q e0 hr1)
              clear hr1 h64 h80
              go_wp2_with fail
              refine HI.out.mono ?_
              rintro e w2 ⟨ht, hh⟩
              rcases hh with ⟨rfl, rfl, hg⟩ | ⟨hne, he⟩
              · have HV := Aside0.mk (HV.out.reads ht hg)
                clear ht hg
                obtain ⟨⟨y0, y1, y2⟩, ⟨f0, f1, f2⟩, _⟩ := HV.out.c
                go_wp2_with fail
                exact val_ret (t := 2) (b := w.heap.size) (x := ⟨3, 0, v⟩) rfl rfl (put3_heap HV.out.res ⟨3, 0, v⟩) rfl ⟨(HV.out.put ⟨3, 0, v⟩).1, rfl, (HV.out.put ⟨3, 0, v⟩).2⟩
              · have HN := Aside0.mk hne
                have HT := Aside0.mk (HV.out.turn.trans ht)
                unfold gives at he
                subst he
                clear ht hne
                go_wp2
                exact ⟨rfl, HT.out, Or.inr ⟨HN.out, rfl⟩⟩
            · have b80 : (c == 80) = false := beq_eq_false_iff_ne.2 h80
              rw [if_neg h80] at hR
              cases hR
              clear h64 h80
              go_wp2_with fail
              exact ⟨rfl, HV.out.turn, Or.inr ⟨by decide, rfl⟩⟩
        · have b56 : decide (56 ≤ c) = false := decide_eq_false h56
          have b56' : decide (c < 56) = true := decide_eq_true (by omega)
          rw [if_neg (fun h => h56 h.1)] at hR
          by_cases h47 : 47 ≤ c
          · have b47 : decide (47 ≤ c) = true := decide_eq_true h47
            rw [if_pos ⟨by omega, h47⟩] at hR
            obtain ⟨n, hn⟩ : ∃ n : Nat, c = 55 - n := ⟨(55 - c).toNat, by omega⟩
            subst hn
            rw [show ((55 : Int) - (55 - n)).toNat = n by omega] at hR
            obtain ⟨v, q1, e1, hr1⟩ : ∃ v q e, rdI s (p + 1) 255 n = (v, q, e) := ⟨_, _, _, rfl⟩
            rw [hr1] at hR
            cases hR
            have hw2 : IntKind.i64.wrap (55 - (55 - (n : Int))) = (n : Int) := by rw [IntWalk.i64_in _ (by omega)]; omega
            have HI := Aside0.mk (integer_any g s (p + 1) w1 HV.out.rdr hs (by omega) (by have := HL.out; omega) n (by omega) 255 (Or.inr rfl) v q e0 hr1)
            clear hr1 h56 h47 hbt
            go_wp2_with fail
            refine HI.out.mono ?_
            rintro e w2 ⟨ht, hh⟩
            rcases hh with ⟨rfl, rfl, hg⟩ | ⟨hne, he⟩
            · have HV := Aside0.mk (HV.out.reads ht hg)
              clear ht hg
              obtain ⟨⟨y0, y1, y2⟩, ⟨f0, f1, f2⟩, _⟩ := HV.out.c
              go_wp2_with fail
              exact val_ret (t := 2) (b := w.heap.size) (x := ⟨2, v, (⟨#[]⟩ : ByteArray)⟩) rfl rfl (put3_heap HV.out.res ⟨2, v, (⟨#[]⟩ : ByteArray)⟩) rfl ⟨(HV.out.put ⟨2, v, (⟨#[]⟩ : ByteArray)⟩).1, rfl, (HV.out.put ⟨2, v, (⟨#[]⟩ : ByteArray)⟩).2⟩
            · have HN := Aside0.mk hne
              have HT := Aside0.mk (HV.out.turn.trans ht)
              unfold gives at he
              subst he
              clear ht hne
              go_wp2
              exact ⟨rfl, HT.out, Or.inr ⟨HN.out, rfl⟩⟩
          · have b47 : decide (47 ≤ c) = false := decide_eq_false h47
            have b80 : (c == 80) = false := beq_eq_false_iff_ne.2 (by omega)
            rw [if_neg (fun h => h47 h.2), if_neg (by omega)] at hR
            cases hR
            clear h56 h47 hbt
            go_wp2_with fail
            exact ⟨rfl, HV.out.turn, Or.inr ⟨by decide, rfl⟩⟩
  · rw [if_neg hlt] at hr
    cases hr
    go_enter Tryd.func38, Tryd.ntmps38
    go_wp2_with fail
    refine (next_gone g s p _ HV.out.rdr (Int.not_lt.2 hlt)).mono ?_
    rintro e w2 ⟨he, hd⟩
    unfold gives at he
    subst he
    have HV := Aside0.mk (HV.out.drawn hd)
    clear hd
    go_wp2
    exact ⟨rfl, HV.out.turn, Or.inr ⟨by decide, rfl⟩⟩
end Go.Proofs.YtbekgkikgcmmaaaDoor.HBitV
