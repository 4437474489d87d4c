/- Several texts of this seat laid together: HBitL, HBitT, HBitE, HBitF, HBitX, HBitGx. -/
import Derived.Test.YtbekgkikgcmmaaaDoorHBitC
import Derived.Test.YtbekgkikgcmmaaaDoorShelf
import Derived.Test.YtbekgkikgcmmaaaDoorHCore2
/- What lays down the values of layer 1, kind by kind, in a key and in a row. -/
set_option linter.unusedVariables false
set_option linter.unusedSimpArgs false
namespace Go.Proofs.YtbekgkikgcmmaaaDoor.HBitL
open Go.RowKit Go.Proofs.YtbekgkikgcmmaaaDoor.PBit Go.Proofs.YtbekgkikgcmmaaaDoor.HBase Go.Proofs.YtbekgkikgcmmaaaDoor.HUv Go.Proofs.YtbekgkikgcmmaaaDoorW.PrintWords Go.Proofs.YtbekgkikgcmmaaaDoorW.PrintLast Go.Proofs.YtbekgkikgcmmaaaDoorW.PrintMore Go.Proofs.YtbekgkikgcmmaaaDoor.HCore Go.Proofs.YtbekgkikgcmmaaaDoor.HBitR Go.Proofs.YtbekgkikgcmmaaaDoor.HBitV Go.Proofs.YtbekgkikgcmmaaaDoor.HBitG Go.Proofs.YtbekgkikgcmmaaaDoor.HBitK Go.Proofs.YtbekgkikgcmmaaaDoor.HBitC

/-- What is told back: a row of the call's own that holds the bytes zs; what lay below the base stands. -/
def Laid (base : Nat) (w : World) (zs : List Int) (e : Ending) (w' : World) : Prop :=
  ∃ v', e = .returned v' ∧ Kd.R (Kd.int .u8) 5 w' base (fun _ => True) v' zs ∧ Below base w w'
/-- What stands while a value is laid down: the value in a box, the bytes so far in a row of the call's own. -/
structure Bx (base : Nat) (w : World) (b : Nat) (x : S33) (v : Value) (xs : List Int) (W : World) : Prop where
  own : Kd.R (Kd.int .u8) 5 W base (fun _ => True) v xs
  box : W.heap[b]? = some (valO x)
  bel : Below base w W
  size : base ≤ W.heap.size
section
variable {base b : Nat} {w W W' : World} {x : S33} {v v' : Value} {xs xs' : List Int}
theorem Bx.start (ho : Kd.R (Kd.int .u8) 5 w base (fun _ => True) v xs) (hb : base ≤ w.heap.size) (_hbe : b = w.heap.size) (hbox : W.heap[b]? = some (valO x)) (hbl : Below w.heap.size w W) : Bx base w b x v xs W :=
  ⟨Kd.R_below ho hbl, hbox, ⟨hbl.os, hbl.tape, hbl.output, hbl.size, fun k hk => hbl.block k (Nat.lt_of_lt_of_le hk hb)⟩, Nat.le_trans hb hbl.size⟩
theorem Bx.c (h : Bx base w b x v xs W) : W.cell? ⟨b, 0, none⟩ = some (.int .i64 x.f0) ∧ W.cell? ⟨b, 1, none⟩ = some (.int .i64 x.f1) ∧ W.cell? ⟨b, 2, none⟩ = some (.string x.f2) :=
  ⟨(blk_cell h.box 0).trans rfl, (blk_cell h.box 1).trans rfl, (blk_cell h.box 2).trans rfl⟩
theorem Bx.more (h : Bx base w b x v xs W) (hb : Below base w W') (hg : W.grownBy W' v.ownBlock) (ho : Kd.R (Kd.int .u8) 5 W' base (fun _ => True) v' xs') : Bx base w b x v' xs' W' :=
  ⟨ho, blk_grown h.box hg (Kd.R_ne h.own h.box (by decide)), hb, Nat.le_trans h.size hg.size⟩
theorem Bx.below (h : Bx base w b x v xs W) (hb : Below W.heap.size W W') : Bx base w b x v xs W' :=
  ⟨Kd.R_below h.own hb, (hb.block _ (blk_lt h.box)).trans h.box, ⟨hb.os.trans h.bel.os, hb.tape.trans h.bel.tape, hb.output.trans h.bel.output, Nat.le_trans h.bel.size hb.size, fun k hk => (hb.block k (Nat.lt_of_lt_of_le hk h.size)).trans (h.bel.block k hk)⟩, Nat.le_trans h.size hb.size⟩
theorem Bx.drew (h : Bx base w b x v xs W) : Bx base w b x v xs W.drew := h.below (below_drew (Below.refl _ _))
end
set_option maxRecDepth 100000 in
set_option maxHeartbeats 1000000 in
theorem lay_null (base : Nat) (v : Value) (xs : List Int) (x : S33) (w : World) (hb : Aside0 (base ≤ w.heap.size)) (hl : Aside0 (xs.length ≤ 1000000)) (HO : Aside0 (Kd.R (Kd.int .u8) 5 w base (fun _ => True) v xs)) :
    Calls Tryd.prog 44 #[v, valV x] w fun e w' => Laid base w (xs ++ [16]) e w' := by
  unfold Laid
  go_enter Tryd.func44, Tryd.ntmps44
  go_wp2_with (first | ((with_reducible refine gate_dst (N := 3) rfl ?_); refine box_event ?hg (N := 3) ?hd (cs := #[.int .i64 x.f0, .int .i64 x.f1, .string x.f2]) (t := 33) ?hr ?_; (case hd => rfl); (case hg => rfl); (case hr => first | (go_simp; done) | (go_simp; rfl)); intro b hbe w1 hbox hbl; have HX := Aside0.mk (Bx.start HO.out hb.out hbe hbox hbl); clear hbe hbox hbl; obtain ⟨y0, y1, y2⟩ := HX.out.c) | ((with_reducible refine gate_builtin (b := .append) (xs := #[.tmp 5, .tmp 6]) rfl ?_); go_loud (at_builtin; refine Kd.R_append (Kd.int .u8) (w0 := w) base rfl (.tmp 5) (.tmp 6) 52 5 (.int .u8 0) 1 rfl Tryd.underlying52 info5 rfl (by decide) (by omega) v xs 16 [.int .u8 16] (fun _ => True) (fun _ => False) rfl (by first | (go_simp; done) | (go_simp; rfl)) ?aP (fun _ hk => hk.elim) ?aF ?aO ?aB ?aS ?aL ?_; (case aP => exact rfl); (case aF => exact (fun _ _ => trivial)); (case aO => exact HX.out.own); (case aB => exact HX.out.bel); (case aS => exact HX.out.size); (case aL => have := hl.out; omega); intro v2 w2 ho hbb hg hat; have HX := Aside0.mk (HX.out.more hbb hg ho); clear ho hbb hg hat; (try clear y0 y1 y2); obtain ⟨y0, y1, y2⟩ := HX.out.c)))
  refine bodyPost_ret (v := v2) ?_ ?_ ?_
  · exact results_tmp (t := 4) rfl _ _ _
  · rfl
  · exact ⟨_, rfl, HX.out.own, HX.out.bel⟩
set_option maxRecDepth 100000 in
set_option maxHeartbeats 1000000 in
theorem lay_bool (base : Nat) (v : Value) (xs : List Int) (x : S33) (w : World) (hb : Aside0 (base ≤ w.heap.size)) (hl : Aside0 (xs.length ≤ 1000000)) (HO : Aside0 (Kd.R (Kd.int .u8) 5 w base (fun _ => True) v xs)) (h1 : Aside0 (x.f1 = 0 ∨ x.f1 = 1)) :
    Calls Tryd.prog 47 #[v, valV x] w fun e w' => Laid base w (xs ++ [32 + x.f1]) e w' := by
  unfold Laid
  have E1 : Aside0 (Go.bits .or .u8 32 (IntKind.u8.wrap x.f1) = 32 + x.f1) := ⟨by rcases h1.out with h | h <;> rw [h] <;> rfl⟩
  go_enter Tryd.func47, Tryd.ntmps47
  go_wp2_with (first | ((with_reducible refine gate_dst (N := 3) rfl ?_); refine box_event ?hg (N := 3) ?hd (cs := #[.int .i64 x.f0, .int .i64 x.f1, .string x.f2]) (t := 33) ?hr ?_; (case hd => rfl); (case hg => rfl); (case hr => first | (go_simp; done) | (go_simp; rfl)); intro b hbe w1 hbox hbl; have HX := Aside0.mk (Bx.start HO.out hb.out hbe hbox hbl); clear hbe hbox hbl; obtain ⟨y0, y1, y2⟩ := HX.out.c) | ((with_reducible refine gate_builtin (b := .append) (xs := #[.tmp 5, .tmp 10]) rfl ?_); go_loud (at_builtin; refine Kd.R_append (Kd.int .u8) (w0 := w) base rfl (.tmp 5) (.tmp 10) 52 5 (.int .u8 0) 1 rfl Tryd.underlying52 info5 rfl (by decide) (by omega) v xs (Go.bits .or .u8 32 (IntKind.u8.wrap x.f1)) [.int .u8 (Go.bits .or .u8 32 (IntKind.u8.wrap x.f1))] (fun _ => True) (fun _ => False) rfl (by first | (go_simp; done) | (go_simp; rfl)) ?aP (fun _ hk => hk.elim) ?aF ?aO ?aB ?aS ?aL ?_; (case aP => exact rfl); (case aF => exact (fun _ _ => trivial)); (case aO => exact HX.out.own); (case aB => exact HX.out.bel); (case aS => exact HX.out.size); (case aL => have := hl.out; omega); intro v2 w2 ho hbb hg hat; have HX := Aside0.mk (HX.out.more hbb hg ho); clear ho hbb hg hat; (try clear y0 y1 y2); obtain ⟨y0, y1, y2⟩ := HX.out.c)))
  go_ret
  refine ⟨_, rfl, ?_, HX.out.bel⟩
  rw [← E1.out]
  exact HX.out.own
set_option maxRecDepth 100000 in
set_option maxHeartbeats 1000000 in
theorem col_null (base : Nat) (v : Value) (xs : List Int) (x : S33) (w : World) (hb : Aside0 (base ≤ w.heap.size)) (hl : Aside0 (xs.length ≤ 1000000)) (HO : Aside0 (Kd.R (Kd.int .u8) 5 w base (fun _ => True) v xs)) :
    Calls Tryd.prog 45 #[v, valV x] w fun e w' => Laid base w (xs ++ []) e w' := by
  unfold Laid
  go_enter Tryd.func45, Tryd.ntmps45
  go_wp2_with (first | ((with_reducible refine gate_dst (N := 3) rfl ?_); refine box_event ?hg (N := 3) ?hd (cs := #[.int .i64 x.f0, .int .i64 x.f1, .string x.f2]) (t := 33) ?hr ?_; (case hd => rfl); (case hg => rfl); (case hr => first | (go_simp; done) | (go_simp; rfl)); intro b hbe w1 hbox hbl; have HX := Aside0.mk (Bx.start HO.out hb.out hbe hbox hbl); clear hbe hbox hbl; obtain ⟨y0, y1, y2⟩ := HX.out.c))
  go_ret
  exact ⟨_, rfl, by rw [List.append_nil]; exact HX.out.own, HX.out.bel⟩
set_option maxRecDepth 100000 in
set_option maxHeartbeats 1000000 in
theorem col_bool (base : Nat) (v : Value) (xs : List Int) (x : S33) (w : World) (hb : Aside0 (base ≤ w.heap.size)) (hl : Aside0 (xs.length ≤ 1000000)) (HO : Aside0 (Kd.R (Kd.int .u8) 5 w base (fun _ => True) v xs)) (h1 : Aside0 (x.f1 = 0 ∨ x.f1 = 1)) :
    Calls Tryd.prog 48 #[v, valV x] w fun e w' => Laid base w (xs ++ [x.f1]) e w' := by
  unfold Laid
  have E1 : Aside0 (IntKind.u8.wrap x.f1 = x.f1) := ⟨by rcases h1.out with h | h <;> rw [h] <;> rfl⟩
  go_enter Tryd.func48, Tryd.ntmps48
  go_wp2_with (first | ((with_reducible refine gate_dst (N := 3) rfl ?_); refine box_event ?hg (N := 3) ?hd (cs := #[.int .i64 x.f0, .int .i64 x.f1, .string x.f2]) (t := 33) ?hr ?_; (case hd => rfl); (case hg => rfl); (case hr => first | (go_simp; done) | (go_simp; rfl)); intro b hbe w1 hbox hbl; have HX := Aside0.mk (Bx.start HO.out hb.out hbe hbox hbl); clear hbe hbox hbl; obtain ⟨y0, y1, y2⟩ := HX.out.c) | ((with_reducible refine gate_builtin (b := .append) (xs := #[.tmp 5, .tmp 9]) rfl ?_); go_loud (at_builtin; refine Kd.R_append (Kd.int .u8) (w0 := w) base rfl (.tmp 5) (.tmp 9) 52 5 (.int .u8 0) 1 rfl Tryd.underlying52 info5 rfl (by decide) (by omega) v xs (IntKind.u8.wrap x.f1) [.int .u8 (IntKind.u8.wrap x.f1)] (fun _ => True) (fun _ => False) rfl (by first | (go_simp; done) | (go_simp; rfl)) ?aP (fun _ hk => hk.elim) ?aF ?aO ?aB ?aS ?aL ?_; (case aP => exact rfl); (case aF => exact (fun _ _ => trivial)); (case aO => exact HX.out.own); (case aB => exact HX.out.bel); (case aS => exact HX.out.size); (case aL => have := hl.out; omega); intro v2 w2 ho hbb hg hat; have HX := Aside0.mk (HX.out.more hbb hg ho); clear ho hbb hg hat; (try clear y0 y1 y2); obtain ⟨y0, y1, y2⟩ := HX.out.c)))
  go_ret
  refine ⟨_, rfl, ?_, HX.out.bel⟩
  have := HX.out.own
  rw [E1.out] at this
  exact this
/-- The bytes of a number below 256^n, the highest first. -/
def bd (U : Nat) : Nat → List Int
  | 0 => []
  | i + 1 => ((U / 256 ^ i % 256 : Nat) : Int) :: bd U i
theorem bd_cut (U j : Int) (z : Int) (h0 : 0 ≤ U) (hz : 0 ≤ z) : (U / 2 ^ (8 * z).toNat) % 256 = ((U.toNat / 256 ^ z.toNat % 256 : Nat) : Int) := by
  obtain ⟨n, rfl⟩ := Int.eq_ofNat_of_zero_le h0
  obtain ⟨m, rfl⟩ := Int.eq_ofNat_of_zero_le hz
  have e : (8 * (m : Int)).toNat = 8 * m := by omega
  have e2 : (2 : Int) ^ (8 * m) = ((256 ^ m : Nat) : Int) := by rw [Int.pow_mul, Int.natCast_pow]; rfl
  rw [e, e2]
  simp only [Int.toNat_natCast]
  rw [← Int.natCast_ediv]
  rfl
set_option maxRecDepth 100000 in
set_option maxHeartbeats 1000000 in
theorem lay_int_walk (base : Nat) (v : Value) (xs : List Int) (x : S33) (w : World) (hb : Aside0 (base ≤ w.heap.size)) (hl : Aside0 (xs.length ≤ 1000000)) (HO : Aside0 (Kd.R (Kd.int .u8) 5 w base (fun _ => True) v xs))
    (U T M L n tA tB : Int) (zs : List Int) (h1 : IntKind.u64.wrap x.f1 = U) (h2 : IntKind.u64.wrap (U / 9223372036854775808 * 18446744073709551615) = T) (h3 : Go.bits .xor .u64 U T = M) (h4 : Go.bits .xor .u64 M T = U)
    (h5 : wrap64 ((wrap64 (L + 7)).tdiv 8) = n) (hA : wrap64 (56 + n) % 256 = tA) (hB : wrap64 (55 - n) % 256 = tB)
    (tb : Bool) (hT : (T == 0) = tb) (HM : Aside0 (0 ≤ M ∧ M ≤ 18446744073709551615)) (HL : Aside0 ((Lib.bitLen M.toNat : Int) = L)) (HN : Aside0 (0 ≤ n ∧ n ≤ 8)) (HU : Aside0 (0 ≤ U ∧ U ≤ 18446744073709551615))
    (HZ : Aside0 (xs ++ [cond tb tA tB] ++ bd U.toNat n.toNat = zs)) :
    Calls Tryd.prog 51 #[v, valV x] w fun e w' => Laid base w zs e w' := by
  unfold Laid
  cases tb
  · go_enter Tryd.func51, Tryd.ntmps51
    go_wp2_with (first | ((with_reducible refine gate_dst (N := 3) rfl ?_); refine box_event ?hg (N := 3) ?hd (cs := #[.int .i64 x.f0, .int .i64 x.f1, .string x.f2]) (t := 33) ?hr ?_; (case hd => rfl); (case hg => rfl); (case hr => first | (go_simp; done) | (go_simp; rfl)); intro b hbe w1 hbox hbl; have HX := Aside0.mk (Bx.start HO.out hb.out hbe hbox hbl); clear hbe hbox hbl; obtain ⟨y0, y1, y2⟩ := HX.out.c) | (go_at_call 75; refine (Tryd.bits_Len64 _ _ HM.out.1 HM.out.2).mono ?_; rintro e w2 ⟨he, rfl⟩; rw [HL.out] at he; subst he) | ((with_reducible refine gate_builtin (b := .append) (xs := #[.tmp 29, .tmp 33]) rfl ?_); go_loud (at_builtin; refine Kd.R_append (Kd.int .u8) (w0 := w) base rfl (.tmp 29) (.tmp 33) 52 5 (.int .u8 0) 1 rfl Tryd.underlying52 info5 rfl (by decide) (by omega) v xs tB [.int .u8 tB] (fun _ => True) (fun _ => False) rfl (by first | (go_simp; done) | (go_simp; rfl)) ?aP (fun _ hk => hk.elim) ?aF ?aO ?aB ?aS ?aL ?_; (case aP => exact rfl); (case aF => exact (fun _ _ => trivial)); (case aO => exact HX.out.own); (case aB => exact HX.out.bel); (case aS => exact HX.out.size); (case aL => have := hl.out; omega); intro v3 w3 ho hbb hg hat; have HX := Aside0.mk (HX.out.more hbb hg ho); clear ho hbb hg hat; (try clear y0 y1 y2); obtain ⟨y0, y1, y2⟩ := HX.out.c)))
    go_loopg [0, 7] 10 (fun gk v0 v7 wr => ∃ (i : Nat) (z : Int) (l : List Int), v7 = .int .i64 z ∧ Aside0 (i ≤ 8 ∧ i < gk ∧ z = (i : Int) - 1 ∧ l.length + i ≤ 1000020) ∧ Aside0 (Bx base w b x v0 l wr) ∧ Aside0 (l ++ bd U.toNat i = zs))
    case atStart => exact ⟨n.toNat, _, _, rfl, by have h0 := HN.out; have h9 := hl.out; refine ⟨by omega, by omega, (w64 (by omega) (by omega)).trans (by omega), by rw [List.length_append, List.length_singleton]; omega⟩, HX, HZ⟩
    case round =>
      clear HX y0 y1 y2 HZ HL HM
      obtain ⟨i, z, l, rfl, HI, HX, HZ⟩ := hrel
      by_cases hz : 0 ≤ z
      · have hi := HI.out
        have e8 : wrap64 (8 * z) = 8 * z := w64 (by omega) (by omega)
        have HB := Aside0.mk (bd_cut U 0 z HU.out.1 hz)
        obtain ⟨Bv, hBv⟩ : ∃ Bv, U / 2 ^ (8 * z).toNat = Bv := ⟨_, rfl⟩
        have b0 : 0 ≤ 8 * z := by omega
        have b1 : 8 * z ≤ 64 := by omega
        have eS : Op.shift .shr .u64 U .i64 (8 * z) = pure (.int .u64 Bv) := by rw [← hBv]; exact shift_shr_u64 _ _ _ b0 b1
        rw [hBv] at HB
        have d0 : decide (0 ≤ z) = true := decide_eq_true hz
        have hz := Aside0.mk hz
        rename 0 ≤ z => hz'
        clear hi hBv hz' b0 b1
        go_wp2_with (first | ((with_reducible refine gate_builtin (b := .append) (xs := #[.tmp 41, .tmp 49]) rfl ?_); go_loud (at_builtin; refine Kd.R_append (Kd.int .u8) (w0 := w) base rfl (.tmp 41) (.tmp 49) 52 5 (.int .u8 0) 1 rfl Tryd.underlying52 info5 rfl (by decide) (by omega) _ l (Bv % 256) [.int .u8 (Bv % 256)] (fun _ => True) (fun _ => False) rfl (by first | (go_simp; done) | (go_simp; rfl)) ?aP (fun _ hk => hk.elim) ?aF ?aO ?aB ?aS ?aL ?_; (case aP => exact rfl); (case aF => exact (fun _ _ => trivial)); (case aO => exact HX.out.own); (case aB => exact HX.out.bel); (case aS => exact HX.out.size); (case aL => have := HI.out; omega); intro v4 w4 ho hbb hg hat; have HX := Aside0.mk (HX.out.more hbb hg ho); clear ho hbb hg hat; (try clear y0 y1 y2); obtain ⟨y0, y1, y2⟩ := HX.out.c)))
        cases gk with
        | zero => exact absurd HI.out.2.1 (by omega)
        | succ k =>
        cases i with
        | zero => have := HI.out; have := hz.out; omega
        | succ j =>
        go_roundg k
        case measure => omega
        case rel => exact ⟨j, _, _, rfl, by have := HI.out; have := hz.out; refine ⟨by omega, by omega, (w64 (by omega) (by omega)).trans (by omega), by rw [List.length_append, List.length_singleton]; omega⟩, HX, ⟨by have h9 := HZ.out; have h8 := HI.out; rw [← h9, HB.out, List.append_assoc]; simp only [bd]; rw [show z.toNat = j by omega]; rfl⟩⟩
      · have d0 : decide (0 ≤ z) = false := decide_eq_false hz
        have hz := Aside0.mk hz
        rename ¬ 0 ≤ z => hz'
        clear hz'
        go_wp2
        go_ret
        have hi := HI.out
        have hi0 : i = 0 := by have := hz.out; omega
        subst hi0
        exact ⟨_, rfl, by rw [← HZ.out, bd, List.append_nil]; exact HX.out.own, HX.out.bel⟩

  · go_enter Tryd.func51, Tryd.ntmps51
    go_wp2_with (first | ((with_reducible refine gate_dst (N := 3) rfl ?_); refine box_event ?hg (N := 3) ?hd (cs := #[.int .i64 x.f0, .int .i64 x.f1, .string x.f2]) (t := 33) ?hr ?_; (case hd => rfl); (case hg => rfl); (case hr => first | (go_simp; done) | (go_simp; rfl)); intro b hbe w1 hbox hbl; have HX := Aside0.mk (Bx.start HO.out hb.out hbe hbox hbl); clear hbe hbox hbl; obtain ⟨y0, y1, y2⟩ := HX.out.c) | (go_at_call 75; refine (Tryd.bits_Len64 _ _ HM.out.1 HM.out.2).mono ?_; rintro e w2 ⟨he, rfl⟩; rw [HL.out] at he; subst he) | ((with_reducible refine gate_builtin (b := .append) (xs := #[.tmp 23, .tmp 27]) rfl ?_); go_loud (at_builtin; refine Kd.R_append (Kd.int .u8) (w0 := w) base rfl (.tmp 23) (.tmp 27) 52 5 (.int .u8 0) 1 rfl Tryd.underlying52 info5 rfl (by decide) (by omega) v xs tA [.int .u8 tA] (fun _ => True) (fun _ => False) rfl (by first | (go_simp; done) | (go_simp; rfl)) ?aP (fun _ hk => hk.elim) ?aF ?aO ?aB ?aS ?aL ?_; (case aP => exact rfl); (case aF => exact (fun _ _ => trivial)); (case aO => exact HX.out.own); (case aB => exact HX.out.bel); (case aS => exact HX.out.size); (case aL => have := hl.out; omega); intro v3 w3 ho hbb hg hat; have HX := Aside0.mk (HX.out.more hbb hg ho); clear ho hbb hg hat; (try clear y0 y1 y2); obtain ⟨y0, y1, y2⟩ := HX.out.c)))
    go_loopg [0, 7] 10 (fun gk v0 v7 wr => ∃ (i : Nat) (z : Int) (l : List Int), v7 = .int .i64 z ∧ Aside0 (i ≤ 8 ∧ i < gk ∧ z = (i : Int) - 1 ∧ l.length + i ≤ 1000020) ∧ Aside0 (Bx base w b x v0 l wr) ∧ Aside0 (l ++ bd U.toNat i = zs))
    case atStart => exact ⟨n.toNat, _, _, rfl, by have h0 := HN.out; have h9 := hl.out; refine ⟨by omega, by omega, (w64 (by omega) (by omega)).trans (by omega), by rw [List.length_append, List.length_singleton]; omega⟩, HX, HZ⟩
    case round =>
      clear HX y0 y1 y2 HZ HL HM
      obtain ⟨i, z, l, rfl, HI, HX, HZ⟩ := hrel
      by_cases hz : 0 ≤ z
      · have hi := HI.out
        have e8 : wrap64 (8 * z) = 8 * z := w64 (by omega) (by omega)
        have HB := Aside0.mk (bd_cut U 0 z HU.out.1 hz)
        obtain ⟨Bv, hBv⟩ : ∃ Bv, U / 2 ^ (8 * z).toNat = Bv := ⟨_, rfl⟩
        have b0 : 0 ≤ 8 * z := by omega
        have b1 : 8 * z ≤ 64 := by omega
        have eS : Op.shift .shr .u64 U .i64 (8 * z) = pure (.int .u64 Bv) := by rw [← hBv]; exact shift_shr_u64 _ _ _ b0 b1
        rw [hBv] at HB
        have d0 : decide (0 ≤ z) = true := decide_eq_true hz
        have hz := Aside0.mk hz
        rename 0 ≤ z => hz'
        clear hi hBv hz' b0 b1
        go_wp2_with (first | ((with_reducible refine gate_builtin (b := .append) (xs := #[.tmp 41, .tmp 49]) rfl ?_); go_loud (at_builtin; refine Kd.R_append (Kd.int .u8) (w0 := w) base rfl (.tmp 41) (.tmp 49) 52 5 (.int .u8 0) 1 rfl Tryd.underlying52 info5 rfl (by decide) (by omega) _ l (Bv % 256) [.int .u8 (Bv % 256)] (fun _ => True) (fun _ => False) rfl (by first | (go_simp; done) | (go_simp; rfl)) ?aP (fun _ hk => hk.elim) ?aF ?aO ?aB ?aS ?aL ?_; (case aP => exact rfl); (case aF => exact (fun _ _ => trivial)); (case aO => exact HX.out.own); (case aB => exact HX.out.bel); (case aS => exact HX.out.size); (case aL => have := HI.out; omega); intro v4 w4 ho hbb hg hat; have HX := Aside0.mk (HX.out.more hbb hg ho); clear ho hbb hg hat; (try clear y0 y1 y2); obtain ⟨y0, y1, y2⟩ := HX.out.c)))
        cases gk with
        | zero => exact absurd HI.out.2.1 (by omega)
        | succ k =>
        cases i with
        | zero => have := HI.out; have := hz.out; omega
        | succ j =>
        go_roundg k
        case measure => omega
        case rel => exact ⟨j, _, _, rfl, by have := HI.out; have := hz.out; refine ⟨by omega, by omega, (w64 (by omega) (by omega)).trans (by omega), by rw [List.length_append, List.length_singleton]; omega⟩, HX, ⟨by have h9 := HZ.out; have h8 := HI.out; rw [← h9, HB.out, List.append_assoc]; simp only [bd]; rw [show z.toNat = j by omega]; rfl⟩⟩
      · have d0 : decide (0 ≤ z) = false := decide_eq_false hz
        have hz := Aside0.mk hz
        rename ¬ 0 ≤ z => hz'
        clear hz'
        go_wp2
        go_ret
        have hi := HI.out
        have hi0 : i = 0 := by have := hz.out; omega
        subst hi0
        exact ⟨_, rfl, by rw [← HZ.out, bd, List.append_nil]; exact HX.out.own, HX.out.bel⟩

set_option maxRecDepth 100000 in
set_option maxHeartbeats 1000000 in
theorem col_int (base : Nat) (v : Value) (xs : List Int) (x : S33) (w : World) (hb : Aside0 (base ≤ w.heap.size)) (hl : Aside0 (xs.length ≤ 1000000)) (HO : Aside0 (Kd.R (Kd.int .u8) 5 w base (fun _ => True) v xs)) (h1 : Aside0 (-9223372036854775808 ≤ x.f1 ∧ x.f1 ≤ 9223372036854775807)) :
    Calls Tryd.prog 52 #[v, valV x] w fun e w' => Laid base w (xs ++ bytesOf (uvb (zig x.f1).toNat)) e w' := by
  unfold Laid
  have hr : bits_Svarint.f x.f1 = some (uvb (zig x.f1).toNat) := if_pos h1.out
  have hsz : Aside0 ((uvb (zig x.f1).toNat).size ≤ 10) := ⟨by rw [uvb_len]; exact uvl_len 10 _⟩
  have hr := Aside0.mk hr
  generalize uvb (zig x.f1).toNat = y at hr hsz ⊢
  go_enter Tryd.func52, Tryd.ntmps52
  go_wp2_with (first | ((with_reducible refine gate_dst (N := 3) rfl ?_); refine box_event ?hg (N := 3) ?hd (cs := #[.int .i64 x.f0, .int .i64 x.f1, .string x.f2]) (t := 33) ?hr ?_; (case hd => rfl); (case hg => rfl); (case hr => first | (go_simp; done) | (go_simp; rfl)); intro b hbe w1 hbox hbl; have HX := Aside0.mk (Bx.start HO.out hb.out hbe hbox hbl); clear hbe hbox hbl; obtain ⟨y0, y1, y2⟩ := HX.out.c) | (go_at_call 53; refine (bits_Svarint.calls _ _ _ hr.out).mono ?_; rintro e w2 ⟨rfl, hbl⟩; have HX := Aside0.mk (HX.out.below hbl); clear hbl; (try clear y0 y1 y2); obtain ⟨y0, y1, y2⟩ := HX.out.c) | ((with_reducible refine gate_builtin (b := .append) (xs := #[.tmp 5, .tmp 8]) rfl ?_); go_loud (at_builtin; refine print_append_str (w0 := w) base rfl (.tmp 5) (.tmp 8) 52 9 5 rfl Tryd.underlying52 Tryd.underlying9 info5 v xs y rfl (by first | (go_simp; done) | (go_simp; rfl)) ?aO ?aB ?aS ?aL ?_; (case aO => exact Kd.own_of_R HX.out.own); (case aB => exact HX.out.bel); (case aS => exact HX.out.size); (case aL => have := hl.out; have := hsz.out; omega); intro v3 w3 ho hbb hg; have HX := Aside0.mk (HX.out.more hbb hg (Kd.R_of_own ho (fun _ _ => trivial))); clear ho hbb hg; (try clear y0 y1 y2); obtain ⟨y0, y1, y2⟩ := HX.out.c)))
  go_ret
  exact ⟨_, rfl, HX.out.own, HX.out.bel⟩
end Go.Proofs.YtbekgkikgcmmaaaDoor.HBitL

/- What lays down a text of layer 1, in a key and in a row. -/
set_option linter.unusedVariables false
set_option linter.unusedSimpArgs false
namespace Go.Proofs.YtbekgkikgcmmaaaDoor.HBitT
open Go.RowKit Go.Proofs.YtbekgkikgcmmaaaDoor.PBit Go.Proofs.YtbekgkikgcmmaaaDoor.HBase Go.Proofs.YtbekgkikgcmmaaaDoor.HUv Go.Proofs.YtbekgkikgcmmaaaDoorW.PrintWords Go.Proofs.YtbekgkikgcmmaaaDoorW.PrintLast Go.Proofs.YtbekgkikgcmmaaaDoorW.PrintMore Go.Proofs.YtbekgkikgcmmaaaDoor.HCore Go.Proofs.YtbekgkikgcmmaaaDoor.HBitR Go.Proofs.YtbekgkikgcmmaaaDoor.HBitV Go.Proofs.YtbekgkikgcmmaaaDoor.HBitG Go.Proofs.YtbekgkikgcmmaaaDoor.HBitK Go.Proofs.YtbekgkikgcmmaaaDoor.HBitC Go.Proofs.YtbekgkikgcmmaaaDoor.HBitL

/-- The bytes of a text, each 00 followed by ff. -/
def zz : List UInt8 → List UInt8
  | [] => []
  | b :: r => if b = 0 then 0 :: 255 :: zz r else b :: zz r
theorem zz_len : ∀ s, (zz s).length ≤ 2 * s.length
  | [] => Nat.le_refl _
  | b :: r => by
    have := zz_len r
    unfold zz
    split <;> simp only [List.length_cons] <;> omega
theorem index_zero (r : List UInt8) : Lib.index (0 :: r) [0] = 0 := by
  unfold Lib.index
  simp
theorem index_other (b : UInt8) (r : List UInt8) (h : b ≠ 0) : Lib.index (b :: r) [0] = if Lib.index r [0] == -1 then -1 else Lib.index r [0] + 1 := by
  have e : ([0] : List UInt8).isPrefixOf (b :: r) = false := by
    show ((0 : UInt8) == b && ([] : List UInt8).isPrefixOf r) = false
    rw [show ((0 : UInt8) == b) = false from beq_eq_false_iff_ne.mpr (Ne.symm h)]
    rfl
  rw [Lib.index, if_neg (by rw [e]; decide)]
theorem zz_is : ∀ s : List UInt8, Lib.replaceK [0] [0, 255] (Lib.count s [0]) s = zz s
  | [] => rfl
  | b :: r => by
    have ih := zz_is r
    by_cases h : b = 0
    · subst h
      rw [Lib.count_cons_eq, Nat.add_comm, Lib.replaceK_hit [0] [0, 255] _ _ 0 (index_zero r)]
      simp only [zz, if_pos]
      rw [← ih]
      rfl
    · rw [Lib.count_cons_ne b 0 r h]
      simp only [zz, if_neg h]
      rw [← ih]
      cases hc : Lib.count r [0] with
      | zero => rfl
      | succ k =>
        obtain ⟨i, hi⟩ := Lib.index_of_count (s := r) (old := [0]) (by omega)
        have h2 : Lib.index (b :: r) [0] = ((i + 1 : Nat) : Int) := by
          rw [index_other b r h, hi, if_neg (by rw [beq_iff_eq]; omega)]
          omega
        rw [Lib.replaceK_hit _ _ k _ (i + 1) h2, Lib.replaceK_hit _ _ k _ i hi]
        rfl
theorem zz_all (s : List UInt8) : Lib.replaceAll s [0] [0, 255] = zz s := by
  have e : Lib.replaceNum s [0] (-1) = Lib.count s [0] := if_pos (Or.inl (by decide))
  unfold Lib.replaceAll Lib.replace
  rw [if_neg (by decide), e, zz_is]
/-- The escaped bytes as whole numbers. -/
def zi (s : ByteArray) : List Int := bytesOf ⟨(zz s.data.toList).toArray⟩
set_option maxRecDepth 100000 in
set_option maxHeartbeats 1000000 in
theorem lay_text (base : Nat) (v : Value) (xs : List Int) (x : S33) (w : World) (hb : Aside0 (base ≤ w.heap.size)) (hl : Aside0 (xs.length ≤ 1000000)) (HO : Aside0 (Kd.R (Kd.int .u8) 5 w base (fun _ => True) v xs)) (m : Int) (hm : Aside0 (w.cell? ⟨1, 0, none⟩ = some (.int .i64 m) ∧ 1 < base)) (h1 : Aside0 (x.f2.size ≤ 4096)) :
    Calls Tryd.prog 56 #[v, valV x] w fun e w' => Laid base w (xs ++ [80] ++ zi x.f2 ++ [0, 1]) e w' := by
  unfold Laid
  have hz := zz_all x.f2.data.toList
  have hln := zz_len x.f2.data.toList
  have hsx : x.f2.data.toList.length = x.f2.size := Array.length_toList
  unfold zi
  have HY : Aside0 ((⟨(Lib.replaceAll x.f2.data.toList [0] [0, 255]).toArray⟩ : ByteArray) = ⟨(zz x.f2.data.toList).toArray⟩) := ⟨by rw [hz]⟩
  have hsz : Aside0 ((⟨(zz x.f2.data.toList).toArray⟩ : ByteArray).size ≤ 8192) := ⟨by show (zz x.f2.data.toList).toArray.size ≤ 8192; rw [List.size_toArray]; have := h1.out; omega⟩
  clear hz hln hsx
  generalize (⟨(zz x.f2.data.toList).toArray⟩ : ByteArray) = y at HY hsz ⊢
  have HC : Aside0 (Lib.countB x.f2 ⟨#[0]⟩ ≤ x.f2.size) := ⟨Lib.countB_le ⟨#[0]⟩ (by decide) _ x.f2 (Nat.le_refl _)⟩
  go_enter Tryd.func56, Tryd.ntmps56
  go_wp2_with (first | ((with_reducible refine gate_dst (N := 3) rfl ?_); refine box_event ?hg (N := 3) ?hd (cs := #[.int .i64 x.f0, .int .i64 x.f1, .string x.f2]) (t := 33) ?hr ?_; (case hd => rfl); (case hg => rfl); (case hr => first | (go_simp; done) | (go_simp; rfl)); intro b hbe w1 hbox hbl; have HX := Aside0.mk (Bx.start HO.out hb.out hbe hbox hbl); clear hbe hbox hbl; obtain ⟨y0, y1, y2⟩ := HX.out.c) | ((with_reducible refine gate_builtin (b := .append) (xs := #[.tmp 5, .tmp 6]) rfl ?_); go_loud (at_builtin; refine Kd.R_append (Kd.int .u8) (w0 := w) base rfl (.tmp 5) (.tmp 6) 52 5 (.int .u8 0) 1 rfl Tryd.underlying52 info5 rfl (by decide) (by omega) v xs 80 [.int .u8 80] (fun _ => True) (fun _ => False) rfl (by first | (go_simp; done) | (go_simp; rfl)) ?aP (fun _ hk => hk.elim) ?aF ?aO ?aB ?aS ?aL ?_; (case aP => exact rfl); (case aF => exact (fun _ _ => trivial)); (case aO => exact HX.out.own); (case aB => exact HX.out.bel); (case aS => exact HX.out.size); (case aL => have := hl.out; omega); intro v2 w2 ho hbb hg hat; have HX := Aside0.mk (HX.out.more hbb hg ho); clear ho hbb hg hat; (try clear y0 y1 y2); obtain ⟨y0, y1, y2⟩ := HX.out.c)) | (go_at_call 77; go_loud (refine (Tryd.strings_ReplaceAll x.f2 ⟨#[0]⟩ ⟨#[0, 255]⟩ m _ ?g1 ?g2 (by decide) ?g3).mono ?_; (case g1 => have := h1.out; omega); (case g2 => exact (HX.out.bel.cell (p := ⟨1, 0, none⟩) hm.out.2).trans hm.out.1); (case g3 => have := h1.out; have := HC.out; show _ + _ * 2 ≤ _; omega); rintro e w3 ⟨he, hbl⟩; replace he : e = .returned (.string y) := he.trans (congrArg (fun z => Ending.returned (.string z)) HY.out); subst he; have HX := Aside0.mk (HX.out.below hbl); clear hbl; (try clear y0 y1 y2); obtain ⟨y0, y1, y2⟩ := HX.out.c)) | ((with_reducible refine gate_builtin (b := .append) (xs := #[.tmp 8, .tmp 11]) rfl ?_); go_loud (at_builtin; refine print_append_str (w0 := w) base rfl (.tmp 8) (.tmp 11) 52 9 5 rfl Tryd.underlying52 Tryd.underlying9 info5 _ (xs ++ [80]) y rfl (by first | (go_simp; done) | (go_simp; rfl)) ?aO ?aB ?aS ?aL ?_; (case aO => exact Kd.own_of_R HX.out.own); (case aB => exact HX.out.bel); (case aS => exact HX.out.size); (case aL => have := hl.out; have := hsz.out; rw [List.length_append, List.length_singleton]; omega); intro v4 w4 ho hbb hg; have HX := Aside0.mk (HX.out.more hbb hg (Kd.R_of_own ho (fun _ _ => trivial))); clear ho hbb hg; (try clear y0 y1 y2); obtain ⟨y0, y1, y2⟩ := HX.out.c)) | ((with_reducible refine gate_dst (N := 14) rfl ?_); go_loud (refine Kd.R_lit (Kd.int .u8) _ 5 ?hg (N := 14) ?hd (xs := ([0, 1] : List Int)) (inner := [.int .u8 0, .int .u8 1]) (ok := fun _ => True) (okp := fun _ => True) ?hr ?hp (fun _ hk => hk) trivial (Below.refl _ _) (Nat.le_refl _) (by simp) ?_; (case hd => rfl); (case hg => rfl); (case hr => first | (go_simp; done) | (go_simp; rfl)); (case hp => exact (Reps.one (show Kd.M (Kd.int .u8) _ _ _ 0 [.int .u8 0] from rfl) (Reps.one (show Kd.M (Kd.int .u8) _ _ _ 1 [.int .u8 1] from rfl) (Reps.none _ _)))); intro v5 w5 ho5 hb5 hg5 hn5; obtain ⟨A5, c5, e5⟩ := Kd.R_slice ho5; subst e5; have HO := Aside0.mk (Kd.R_mono (Kd.R_elder' HX.out.own (Kd.R_base ho5) hb5) (ok' := fun k_ => some k_ ≠ (.slice A5 ([0, 1] : List Int).length c5 : Value).ownBlock) (fun _ hk => hk.2)); have HX := Aside0.mk (HX.out.below hb5); have HO5 := Aside0.mk ho5; clear ho5 hb5 hg5 hn5)) | ((with_reducible refine gate_builtin (b := .append) (xs := #[.tmp 13, .tmp 14]) rfl ?_); go_loud (at_builtin; refine Kd.R_append_rows (Kd.int .u8) (w0 := w) base rfl (.tmp 13) (.tmp 14) 52 5 (.int .u8 0) 1 rfl Tryd.underlying52 info5 rfl (by decide) (by omega) _ (xs ++ [80] ++ bytesOf y) ([0, 1] : List Int) _ _ _ (fun k_ => some k_ ≠ (.slice A5 ([0, 1] : List Int).length c5 : Value).ownBlock) (fun _ => False) rfl rfl ?aO ?aR (fun _ _ h => h) (fun _ h => h.elim) ?aF ?aB ?aS ?aL ?_; (case aR => exact (Kd.R_reads' HO5.out).2.2); (case aB => exact HX.out.bel); (case aF => exact (fun k_ hk => Kd.fresh' (Kd.R_lt HO5.out) k_ hk)); (case aO => exact HO.out); (case aS => exact HX.out.size); (case aL => have := hl.out; have := hsz.out; simp only [List.length_append, List.length_cons, List.length_nil, bytesOf_length]; omega); intro v6 w6 ho hb hg hat; have HX := Aside0.mk (HX.out.more hb hg (Kd.R_mono ho (fun _ _ => trivial))); clear ho hb hg hat)))
  go_ret
  exact ⟨_, rfl, HX.out.own, HX.out.bel⟩
section
variable {P : Program} {ops : Array Oper} {o : Oper} {a : Act} {Q : Exit → Act → World → Prop} {Kc : Act → World → Prop}
theorem step_append_str {w0 W : World} (base : Nat) (hw : Region.wanted o (yielded ops a.tmps) = true) (s x : Operand) (t u e : TypeId)
    (ho : o.op = .call { callee := .builtin .append, args := #[s, x], argTypes := #[t, u] })
    (ht : P.underlying t = some (.slice e)) (hu : P.underlying u = some .string) (hinfo : (P.info? e).map (fun i => (i.zero, i.size, i.bytes)) = some (some (.int .u8 0), 1, 1))
    (v : Value) (xs : List Int) (y : ByteArray) (hs : a.eval s = v) (hx : a.eval x = .string y)
    (HO : W.ownsRow base e 1 v xs.length (nums .u8 xs)) (HB : Below base w0 W) (hbase : base ≤ W.heap.size) (hl : xs.length + y.size ≤ 140737488355328)
    (h : ∀ v1 w1, w1.ownsRow base e 1 v1 (xs ++ bytesOf y).length (nums .u8 (xs ++ bytesOf y)) → Below base w0 w1 → W.grownBy w1 v.ownBlock → Kc (a.put o.dst v1) w1) :
    if Region.wanted o (yielded ops a.tmps) = true then Oper.wp P o a W Kc Q else Kc (a.put o.dst undef) W := by
  rw [if_pos hw]
  obtain ⟨i0, hi, hzz⟩ := Option.map_eq_some_iff.1 hinfo
  simp only [Prod.mk.injEq] at hzz
  obtain ⟨hz0, hz1, hz2⟩ := hzz
  obtain ⟨v', w', hr, h2, h3, h4⟩ := Lib.run_append_own_string (P := P) W base t u o.type e i0 ht hu hi hz0 hz1 hz2 v xs.length (nums .u8 xs) HO y (by simp only [maxLen]; omega) hl hbase
  unfold Oper.wp execOp
  simp only [ho, resolve, invoke, builtin, Sem.run_bind, Sem.run_pure, Result.andThen_ok, List.map_toArray, List.map_cons, List.map_nil, hs, hx, hr]
  have hl2 : (xs ++ bytesOf y).length = xs.length + y.size := by rw [List.length_append, bytesOf_length]
  have hc : nums .u8 (xs ++ bytesOf y) = nums .u8 xs ++ Lib.strCells y := by
    rw [nums_append]
    congr 1
    simp [nums, bytesOf, Lib.strCells]
  exact h v' w' (by rw [hl2, hc]; exact h2) (HB.grown h3 hbase (own_base HO)) h3
end
set_option maxRecDepth 100000 in
set_option maxHeartbeats 1000000 in
theorem col_text (base : Nat) (v : Value) (xs : List Int) (x : S33) (w : World) (hb : Aside0 (base ≤ w.heap.size)) (hl : Aside0 (xs.length ≤ 1000000)) (HO : Aside0 (Kd.R (Kd.int .u8) 5 w base (fun _ => True) v xs)) (h1 : Aside0 (x.f2.size ≤ 4096)) :
    Calls Tryd.prog 57 #[v, valV x] w fun e w' => Laid base w (xs ++ (bytesOf (uvb x.f2.size) ++ bytesOf x.f2)) e w' := by
  unfold Laid
  have e0 : Aside0 (IntKind.u64.wrap (x.f2.size : Int) = (x.f2.size : Int)) := ⟨wu64 (by omega) (by have := h1.out; omega)⟩
  have hr : Aside0 (bits_Uvarint.f (IntKind.u64.wrap (x.f2.size : Int)) = some (uvb x.f2.size)) := ⟨by rw [e0.out]; exact (if_pos ⟨by omega, by have := h1.out; omega⟩).trans rfl⟩
  have hsz : Aside0 ((uvb x.f2.size).size ≤ 10) := ⟨by rw [uvb_len]; exact uvl_len 10 _⟩
  generalize uvb x.f2.size = y at hr hsz ⊢
  go_enter Tryd.func57, Tryd.ntmps57
  go_wp2_with (first | ((with_reducible refine gate_dst (N := 3) rfl ?_); refine box_event ?hg (N := 3) ?hd (cs := #[.int .i64 x.f0, .int .i64 x.f1, .string x.f2]) (t := 33) ?hr ?_; (case hd => rfl); (case hg => rfl); (case hr => first | (go_simp; done) | (go_simp; rfl)); intro b hbe w1 hbox hbl; have HX := Aside0.mk (Bx.start HO.out hb.out hbe hbox hbl); clear hbe hbox hbl; obtain ⟨y0, y1, y2⟩ := HX.out.c))
  have hdr : Aside0 (Bx base w b x v xs w1.drew) := ⟨HX.out.drew⟩
  refine start_ (n := 11) (S := fun w' => w'.cell? ⟨b, 2, none⟩ = some (.string x.f2)) (ds := []) #[false, false, false, false, false, false, false, false, false, false, false] (by kernel_rfl) rfl rfl (hdr.out.c.2.2) (fun hHeld => ?_)
  generalize w1.drew = w2 at hHeld hdr ⊢
  clear HX y0 y1 y2
  have HX := hdr
  clear hdr
  refine pure_ (i := 0) (N := some 5) (v := ?_) (a' := ?_) #[true, false, false, false, false, false, false, false, false, false, false] rfl rfl (by kernel_rfl) (fun _ _ _ h => h) (Or.inl ⟨by rfl, ?_⟩) ?_ ?_
  rotate_left
  · intro w'
    go_simp
    with_reducible rfl
  rotate_left
  · simp only [Act.put, List.setIfInBounds_toArray, List.set_cons_zero, List.set_cons_succ, i64_w, i32_w]
    rfl
  refine pure_ (i := 1) (N := some 6) (v := ?_) (a' := ?_) #[true, true, false, false, false, false, false, false, false, false, false] rfl rfl (by kernel_rfl) (fun _ _ _ h => h) (Or.inl ⟨by rfl, ?_⟩) ?_ ?_
  rotate_left
  · intro w'
    go_simp
    with_reducible rfl
  rotate_left
  · simp only [Act.put, List.setIfInBounds_toArray, List.set_cons_zero, List.set_cons_succ, i64_w, i32_w]
    rfl
  refine take_ (i := 2) (N := some 7) (v := ?_) (a' := ?_) #[true, true, true, false, false, false, false, false, false, false, false] rfl rfl (by kernel_rfl) (fun _ _ _ h => h) (Or.inl ⟨by rfl, ?_⟩) hHeld ?_ ?_
  rotate_left
  · intro w' s0
    skip
    go_simp
    with_reducible rfl
  rotate_left
  · simp only [Act.put, List.setIfInBounds_toArray, List.set_cons_zero, List.set_cons_succ, i64_w, i32_w]
    rfl
  refine pure_ (i := 3) (N := some 8) (v := ?_) (a' := ?_) #[true, true, true, true, false, false, false, false, false, false, false] rfl rfl (by kernel_rfl) (fun _ _ _ h => h) (Or.inl ⟨by rfl, ?_⟩) ?_ ?_
  rotate_left
  · intro w'
    go_simp
    with_reducible rfl
  rotate_left
  · simp only [Act.put, List.setIfInBounds_toArray, List.set_cons_zero, List.set_cons_succ, i64_w, i32_w]
    rfl
  refine pure_ (i := 4) (N := some 9) (v := ?_) (a' := ?_) #[true, true, true, true, true, false, false, false, false, false, false] rfl rfl (by kernel_rfl) (fun _ _ _ h => h) (Or.inl ⟨by rfl, ?_⟩) ?_ ?_
  rotate_left
  · intro w'
    go_simp
    with_reducible rfl
  rotate_left
  · simp only [Act.put, List.setIfInBounds_toArray, List.set_cons_zero, List.set_cons_succ, i64_w, i32_w]
    rfl
  refine pure_ (i := 7) (N := some 12) (v := ?_) (a' := ?_) #[true, true, true, true, true, false, false, true, false, false, false] rfl rfl (by kernel_rfl) (fun _ _ _ h => h) (Or.inl ⟨by rfl, ?_⟩) ?_ ?_
  rotate_left
  · intro w'
    go_simp
    with_reducible rfl
  rotate_left
  · simp only [Act.put, List.setIfInBounds_toArray, List.set_cons_zero, List.set_cons_succ, i64_w, i32_w]
    rfl
  refine take_ (i := 8) (N := some 13) (v := ?_) (a' := ?_) #[true, true, true, true, true, false, false, true, true, false, false] rfl rfl (by kernel_rfl) (fun _ _ _ h => h) (Or.inl ⟨by rfl, ?_⟩) hHeld ?_ ?_
  rotate_left
  · intro w' s0
    skip
    go_simp
    with_reducible rfl
  rotate_left
  · simp only [Act.put, List.setIfInBounds_toArray, List.set_cons_zero, List.set_cons_succ, i64_w, i32_w]
    rfl
  refine one_ (i := 5) (N := some 10) #[true, true, true, true, true, true, false, true, true, false, false] rfl rfl (by kernel_rfl) (by decide) (fun K hK => ?_)
  refine goes_ Tryd.func25 (by kernel_rfl) rfl #[.int .u64 (IntKind.u64.wrap (x.f2.size : Int))] (by rfl) rfl rfl (by (try simp only [List.map_toArray, List.map_cons, List.map_nil]); first | done | rfl) ?_
  refine (bits_Uvarint.calls _ _ _ hr.out).mono ?_
  rintro e w3 ⟨rfl, hbl⟩
  refine ⟨_, rfl, ?_⟩
  have HX := Aside0.mk (HX.out.below hbl)
  clear hbl
  refine hK.out _ _ (HX.out.c.2.2) (fun hHeld => ?_)
  clear hK K
  refine norm_ (a' := ?_) ?_ ?_
  rotate_left
  · show Act.put _ (some 10) _ = _
    simp only [Act.put, List.setIfInBounds_toArray, List.set_cons_zero, List.set_cons_succ, i64_w, i32_w]
    rfl
  refine one_ (i := 6) (N := some 11) #[true, true, true, true, true, true, true, true, true, false, false] rfl rfl (by kernel_rfl) (by decide) (fun K hK => ?_)
  refine step_append_str (w0 := w) base (by rfl) (.tmp 5) (.tmp 10) 52 9 5 rfl Tryd.underlying52 Tryd.underlying9 info5 v xs y rfl (by first | rfl | (go_simp; done) | (go_simp; rfl)) (Kd.own_of_R HX.out.own) HX.out.bel HX.out.size (by have := hl.out; have := hsz.out; omega) ?_
  intro v4 w4 ho hbb hg
  have HX := Aside0.mk (HX.out.more hbb hg (Kd.R_of_own ho (fun _ _ => trivial)))
  clear ho hbb hg
  refine hK.out _ _ (HX.out.c.2.2) (fun hHeld => ?_)
  clear hK K
  refine norm_ (a' := ?_) ?_ ?_
  rotate_left
  · show Act.put _ (some 11) _ = _
    simp only [Act.put, List.setIfInBounds_toArray, List.set_cons_zero, List.set_cons_succ, i64_w, i32_w]
    rfl
  refine one_ (i := 9) (N := some 14) #[true, true, true, true, true, true, true, true, true, true, false] rfl rfl (by kernel_rfl) (by decide) (fun K hK => ?_)
  refine step_append_str (w0 := w) base (by rfl) (.tmp 11) (.tmp 13) 52 9 5 rfl Tryd.underlying52 Tryd.underlying9 info5 _ (xs ++ bytesOf y) x.f2 rfl (by first | rfl | (go_simp; done) | (go_simp; rfl)) (Kd.own_of_R HX.out.own) HX.out.bel HX.out.size (by have := hl.out; have := hsz.out; have := h1.out; rw [List.length_append, bytesOf_length]; omega) ?_
  intro v5 w5 ho hbb hg
  have HX := Aside0.mk (HX.out.more hbb hg (Kd.R_of_own ho (fun _ _ => trivial)))
  clear ho hbb hg
  refine hK.out _ _ (HX.out.c.2.2) (fun hHeld => ?_)
  clear hK K
  refine norm_ (a' := ?_) ?_ ?_
  rotate_left
  · show Act.put _ (some 14) _ = _
    simp only [Act.put, List.setIfInBounds_toArray, List.set_cons_zero, List.set_cons_succ, i64_w, i32_w]
    rfl
  refine pure_ (i := 10) (N := some 4) (v := ?_) (a' := ?_) #[true, true, true, true, true, true, true, true, true, true, true] rfl rfl (by kernel_rfl) (fun _ _ _ h => h) (Or.inl ⟨by rfl, ?_⟩) ?_ ?_
  rotate_left
  · intro w'
    go_simp
    with_reducible rfl
  rotate_left
  · simp only [Act.put, List.setIfInBounds_toArray, List.set_cons_zero, List.set_cons_succ, i64_w, i32_w]
    rfl
  refine done_ (by kernel_rfl) ?_
  go_wp2
  go_ret
  exact ⟨_, rfl, by rw [← List.append_assoc]; exact HX.out.own, HX.out.bel⟩
end Go.Proofs.YtbekgkikgcmmaaaDoor.HBitT

/- Which lists of values may stand in a key or a row: valid and check of layer 1. -/
set_option linter.unusedVariables false
set_option linter.unusedSimpArgs false
namespace Go.Proofs.YtbekgkikgcmmaaaDoor.HBitE
open Go.RowKit Go.Proofs.YtbekgkikgcmmaaaDoor.PBit Go.Proofs.YtbekgkikgcmmaaaDoor.HBase Go.Proofs.YtbekgkikgcmmaaaDoor.HUv Go.Proofs.YtbekgkikgcmmaaaDoorW.PrintWords Go.Proofs.YtbekgkikgcmmaaaDoorW.PrintLast Go.Proofs.YtbekgkikgcmmaaaDoorW.PrintMore Go.Proofs.YtbekgkikgcmmaaaDoor.HCore Go.Proofs.YtbekgkikgcmmaaaDoor.HBitR Go.Proofs.YtbekgkikgcmmaaaDoor.HBitV Go.Proofs.YtbekgkikgcmmaaaDoor.HBitG Go.Proofs.YtbekgkikgcmmaaaDoor.HBitK Go.Proofs.YtbekgkikgcmmaaaDoor.HBitC Go.Proofs.YtbekgkikgcmmaaaDoor.HBitL

/-- What the table of shapes holds. -/
def shp : List Value := [.int .u64 1, .bool false, .int .u64 2, .bool false, .int .u64 0, .bool false, .int .u64 1, .bool true]
/-- The package's variables: the table of shapes; the length of a text up to which another search is taken. -/
structure Tab (w : World) : Prop where
  sh : ∀ j, j < 8 → w.cell? ⟨0, j, none⟩ = shp[j]?
  ml : ∃ m, w.cell? ⟨1, 0, none⟩ = some (.int .i64 m)
theorem Tab.below {w w' : World} (h : Tab w) (hb : Below w.heap.size w w') : Tab w' :=
  ⟨fun j hj => by
    have hs : ∃ u, shp[j]? = some u := ⟨shp[j]'hj, List.getElem?_eq_getElem hj⟩
    obtain ⟨u, hu⟩ := hs
    rw [hu]
    exact pw_cell_below hb ((h.sh j hj).trans hu), by obtain ⟨m, hm⟩ := h.ml; exact ⟨m, pw_cell_below hb hm⟩⟩
theorem Tab.drewN {w : World} (h : Tab w) (n : Nat) : Tab (w.drewN n) := h.below (pw_below_drewN (Below.refl _ _) n)
/-- May a value be so? (of a kind from 0 to 3) -/
def vld (x : S33) : Bool :=
  if x.f0 = 2 then x.f2.toList.isEmpty else if x.f0 = 3 then decide (IntKind.u64.wrap x.f1 < 1) else if x.f0 = 1 then decide (IntKind.u64.wrap x.f1 < 2) && x.f2.toList.isEmpty else decide (IntKind.u64.wrap x.f1 < 1) && x.f2.toList.isEmpty
set_option maxRecDepth 100000 in
set_option maxHeartbeats 1000000 in
theorem valid_0 (f1 : Int) (f2 : ByteArray) (w : World) (hT : Aside0 (Tab w)) :
    Calls Tryd.prog 43 #[valV ⟨0, f1, f2⟩] w fun e w' => e = .returned (.bool (vld ⟨0, f1, f2⟩)) ∧ Below w.heap.size w w' := by
  have HG := Aside0.mk (heap_alloc_new w (.cells #[.int .i64 0, .int .i64 f1, .string f2] 33))
  have c0 : _ = some (Value.int .u64 1) := (hT.out.below (below_alloc (Below.refl _ _) (.cells #[.int .i64 0, .int .i64 f1, .string f2] 33))).sh 0 (by decide)
  have c1 : _ = some (Value.bool false) := (hT.out.below (below_alloc (Below.refl _ _) (.cells #[.int .i64 0, .int .i64 f1, .string f2] 33))).sh 1 (by decide)
  go_enter Tryd.func43, Tryd.ntmps43
  go_wp2_with fail
  all_goals (
    go_ret
    refine ⟨?_, below_alloc (below_alloc (Below.refl _ _) _) _⟩
    simp [vld, *]
    try omega)
set_option maxRecDepth 100000 in
set_option maxHeartbeats 1000000 in
theorem valid_1 (f1 : Int) (f2 : ByteArray) (w : World) (hT : Aside0 (Tab w)) :
    Calls Tryd.prog 43 #[valV ⟨1, f1, f2⟩] w fun e w' => e = .returned (.bool (vld ⟨1, f1, f2⟩)) ∧ Below w.heap.size w w' := by
  have HG := Aside0.mk (heap_alloc_new w (.cells #[.int .i64 1, .int .i64 f1, .string f2] 33))
  have c0 : _ = some (Value.int .u64 2) := (hT.out.below (below_alloc (Below.refl _ _) (.cells #[.int .i64 1, .int .i64 f1, .string f2] 33))).sh 2 (by decide)
  have c1 : _ = some (Value.bool false) := (hT.out.below (below_alloc (Below.refl _ _) (.cells #[.int .i64 1, .int .i64 f1, .string f2] 33))).sh 3 (by decide)
  go_enter Tryd.func43, Tryd.ntmps43
  go_wp2_with fail
  all_goals (
    go_ret
    refine ⟨?_, below_alloc (below_alloc (Below.refl _ _) _) _⟩
    simp [vld, *]
    try omega)
set_option maxRecDepth 100000 in
set_option maxHeartbeats 1000000 in
theorem valid_2 (f1 : Int) (f2 : ByteArray) (w : World) (hT : Aside0 (Tab w)) :
    Calls Tryd.prog 43 #[valV ⟨2, f1, f2⟩] w fun e w' => e = .returned (.bool (vld ⟨2, f1, f2⟩)) ∧ Below w.heap.size w w' := by
  have HG := Aside0.mk (heap_alloc_new w (.cells #[.int .i64 2, .int .i64 f1, .string f2] 33))
  have c0 : _ = some (Value.int .u64 0) := (hT.out.below (below_alloc (Below.refl _ _) (.cells #[.int .i64 2, .int .i64 f1, .string f2] 33))).sh 4 (by decide)
  have c1 : _ = some (Value.bool false) := (hT.out.below (below_alloc (Below.refl _ _) (.cells #[.int .i64 2, .int .i64 f1, .string f2] 33))).sh 5 (by decide)
  go_enter Tryd.func43, Tryd.ntmps43
  go_wp2_with fail
  all_goals (
    go_ret
    refine ⟨?_, below_alloc (below_alloc (Below.refl _ _) _) _⟩
    simp [vld, *]
    try omega)
set_option maxRecDepth 100000 in
set_option maxHeartbeats 1000000 in
theorem valid_3 (f1 : Int) (f2 : ByteArray) (w : World) (hT : Aside0 (Tab w)) :
    Calls Tryd.prog 43 #[valV ⟨3, f1, f2⟩] w fun e w' => e = .returned (.bool (vld ⟨3, f1, f2⟩)) ∧ Below w.heap.size w w' := by
  have HG := Aside0.mk (heap_alloc_new w (.cells #[.int .i64 3, .int .i64 f1, .string f2] 33))
  have c0 : _ = some (Value.int .u64 1) := (hT.out.below (below_alloc (Below.refl _ _) (.cells #[.int .i64 3, .int .i64 f1, .string f2] 33))).sh 6 (by decide)
  have c1 : _ = some (Value.bool true) := (hT.out.below (below_alloc (Below.refl _ _) (.cells #[.int .i64 3, .int .i64 f1, .string f2] 33))).sh 7 (by decide)
  go_enter Tryd.func43, Tryd.ntmps43
  go_wp2_with fail
  all_goals (
    go_ret
    refine ⟨?_, below_alloc (below_alloc (Below.refl _ _) _) _⟩
    simp [vld, *]
    try omega)
theorem valid_any (x : S33) (w : World) (hT : Aside0 (Tab w)) (hk : 0 ≤ x.f0 ∧ x.f0 ≤ 3) :
    Calls Tryd.prog 43 #[valV x] w fun e w' => e = .returned (.bool (vld x)) ∧ Below w.heap.size w w' := by
  obtain ⟨f0, f1, f2⟩ := x
  dsimp only at hk
  have h4 : f0 = 0 ∨ f0 = 1 ∨ f0 = 2 ∨ f0 = 3 := by omega
  rcases h4 with rfl | rfl | rfl | rfl
  · exact valid_0 f1 f2 w hT
  · exact valid_1 f1 f2 w hT
  · exact valid_2 f1 f2 w hT
  · exact valid_3 f1 f2 w hT
/-- What check tells of one value, of a list. -/
def chk1 (x : S33) : Int := if x.f0 < 0 then 19 else if 4 ≤ x.f0 then 19 else if vld x = false then 19 else if 4096 < (x.f2.size : Int) then 4 else 0
def chkL : List S33 → Int
  | [] => 0
  | x :: r => if chk1 x = 0 then chkL r else chk1 x
def chk (l : List S33) : Int := if 16 < (l.length : Int) then 18 else chkL l
theorem chkL_at (l : List S33) (i : Nat) (hi : i < l.length) : chkL (l.drop i) = if chk1 (rd_T33 l (i : Int)) = 0 then chkL (l.drop (i + 1)) else chk1 (rd_T33 l (i : Int)) := by
  have e : rd_T33 l (i : Int) = l[i] := by
    unfold rd_T33
    simp [List.getD, List.getElem?_eq_getElem hi]
  rw [e, List.drop_eq_getElem_cons hi]
  rfl
set_option maxRecDepth 100000 in
set_option maxHeartbeats 4000000 in
theorem check_any (A0 : Option Addr) (n0 : Nat) (l : List S33) (w : World) (hT : Aside0 (Tab w)) (hr : Aside0 (Kd.C k33 w A0 l.length l)) :
    Calls Tryd.prog 26 #[.slice A0 l.length n0] w fun e w' => e = .returned (.int .i64 (chk l)) ∧ Below w.heap.size w w' := by
  have hu := Tryd.underlying33
  have HB := Aside0.mk (Below.refl w.heap.size w)
  by_cases hl : 16 < (l.length : Int)
  · have d0 : decide (16 < (l.length : Int)) = true := decide_eq_true hl
    have d1 : decide (16 < l.length) = true := decide_eq_true (by omega)
    have HL := Aside0.mk hl
    clear hl
    go_enter Tryd.func26, Tryd.ntmps26
    go_wp2
    go_ret
    exact ⟨by unfold chk; rw [if_pos HL.out]; rfl, HB.out⟩
  · have d0 : decide (16 < (l.length : Int)) = false := decide_eq_false hl
    have d1 : decide (16 < l.length) = false := decide_eq_false (by omega)
    have HL := Aside0.mk hl
    clear hl
    have HR : Aside0 (chkL (l.drop 0) = chk l) := ⟨by unfold chk; rw [if_neg HL.out]; rfl⟩
    generalize chk l = r at HR ⊢
    go_enter Tryd.func26, Tryd.ntmps26
    go_wp2
    go_loopg [10] 17 (fun gk v10 wr => ∃ (i : Nat) (z : Int), v10 = .int .i64 z ∧ Aside0 (z = (i : Int) ∧ i ≤ l.length ∧ l.length < i + gk) ∧ Aside0 (chkL (l.drop i) = r) ∧ Aside0 (Below w.heap.size w wr))
    case atStart => exact ⟨0, _, rfl, by have := HL.out; refine ⟨rfl, by omega, by omega⟩, HR, HB⟩
    case round =>
      clear HR HB d0 d1
      obtain ⟨i, z, rfl, HI, HR, HB⟩ := hrel
      have hi := HI.out
      by_cases hz : z < (l.length : Int)
      · have d0 : decide (z < (l.length : Int)) = true := decide_eq_true hz
        have p0 : (0 ≤ z) = True := eq_true (by omega)
        have HZ := Aside0.mk hz
        have p1 : (z < (l.length : Int)) = True := eq_true hz
        have HS := Aside0.mk (chkL_at l i (by omega))
        rw [← HI.out.1] at HS
        obtain ⟨ad, e0, x0, x1, x2⟩ := at_T33 hr.out z (by omega) hz
        cases e0
        replace x0 := (HB.out.cell (World.block_lt_of_cell? w _ x0)).trans x0
        replace x1 := (HB.out.cell (World.block_lt_of_cell? w _ x1)).trans x1
        replace x2 := (HB.out.cell (World.block_lt_of_cell? w _ x2)).trans x2
        clear hz hi
        generalize rd_T33 l z = x at x0 x1 x2 HS
        have HB2 := Aside0.mk (below_alloc HB.out (.cells #[.int .i64 x.f0, .int .i64 x.f1, .string x.f2] 33))
        have HQ := Aside0.mk (heap_alloc_new wr (.cells #[.int .i64 x.f0, .int .i64 x.f1, .string x.f2] 33))
        have y2 : _ = some (Value.string x.f2) := (blk_cell HQ.out 2).trans rfl
        by_cases hA : x.f0 < 0
        · have dA : decide (x.f0 < 0) = true := decide_eq_true hA
          have HA := Aside0.mk hA
          clear hA
          go_wp2_with fail
          go_ret
          refine ⟨?_, HB2.out⟩
          have h9 := HS.out
          have e1 : chk1 x = 19 := by unfold chk1; rw [if_pos HA.out]
          rw [e1, if_neg (by decide), HR.out] at h9
          rw [h9]
          rfl
        · have dA : decide (x.f0 < 0) = false := decide_eq_false hA
          have HA := Aside0.mk hA
          clear hA
          by_cases hB4 : 4 ≤ x.f0
          · have dB : decide (4 ≤ x.f0) = true := decide_eq_true hB4
            have HB4 := Aside0.mk hB4
            clear hB4
            go_wp2_with fail
            go_ret
            refine ⟨?_, HB2.out⟩
            have h9 := HS.out
            have e1 : chk1 x = 19 := by unfold chk1; rw [if_neg (by have := HA.out; omega), if_pos HB4.out]
            rw [e1, if_neg (by decide), HR.out] at h9
            rw [h9]
            rfl
          · have dB : decide (4 ≤ x.f0) = false := decide_eq_false hB4
            have HB4 := Aside0.mk hB4
            clear hB4
            cases hv : vld x with
            | false =>
              go_wp2_with (go_at_call 43; refine (valid_any x _ ⟨hT.out.below HB2.out⟩ ⟨by have := HA.out; omega, by have := HB4.out; omega⟩).mono ?_; rintro e w2 ⟨rfl, hb⟩; have HB3 := Aside0.mk (below_step HB2.out hb); have y3 := pw_cell_below hb y2; clear hb)
              go_ret
              refine ⟨?_, HB3.out⟩
              have h9 := HS.out
              have e1 : chk1 x = 19 := by unfold chk1; rw [if_neg (by have := HA.out; omega), if_neg (by have := HB4.out; omega), if_pos hv]
              rw [e1, if_neg (by decide), HR.out] at h9
              rw [h9]
              rfl
            | true =>
              by_cases h40 : 4096 < (x.f2.size : Int)
              · have d4 : decide (4096 < (x.f2.size : Int)) = true := decide_eq_true h40
                have d5 : decide (4096 < x.f2.size) = true := decide_eq_true (by omega)
                have H40 := Aside0.mk h40
                clear h40
                go_wp2_with (go_at_call 43; refine (valid_any x _ ⟨hT.out.below HB2.out⟩ ⟨by have := HA.out; omega, by have := HB4.out; omega⟩).mono ?_; rintro e w2 ⟨rfl, hb⟩; have HB3 := Aside0.mk (below_step HB2.out hb); have y3 := pw_cell_below hb y2; clear hb)
                go_ret
                refine ⟨?_, HB3.out⟩
                have h9 := HS.out
                have e1 : chk1 x = 4 := by unfold chk1; rw [if_neg (by have := HA.out; omega), if_neg (by have := HB4.out; omega), if_neg (by rw [hv]; decide), if_pos H40.out]
                rw [e1, if_neg (by decide), HR.out] at h9
                rw [h9]
                rfl
              · have d4 : decide (4096 < (x.f2.size : Int)) = false := decide_eq_false h40
                have d5 : decide (4096 < x.f2.size) = false := decide_eq_false (by omega)
                have H40 := Aside0.mk h40
                clear h40
                go_wp2_with (go_at_call 43; refine (valid_any x _ ⟨hT.out.below HB2.out⟩ ⟨by have := HA.out; omega, by have := HB4.out; omega⟩).mono ?_; rintro e w2 ⟨rfl, hb⟩; have HB3 := Aside0.mk (below_step HB2.out hb); have y3 := pw_cell_below hb y2; clear hb)
                have h9 := HS.out
                have e1 : chk1 x = 0 := by unfold chk1; rw [if_neg (by have := HA.out; omega), if_neg (by have := HB4.out; omega), if_neg (by rw [hv]; decide), if_neg (by have := H40.out; omega)]
                rw [e1, if_pos rfl, HR.out] at h9
                have h9 := Aside0.mk h9
                cases gk with
                | zero => exact absurd HI.out.2.2 (by have := HI.out; omega)
                | succ k =>
                go_roundg k
                case measure => omega
                case rel => exact ⟨i + 1, _, rfl, by have := HI.out; have h16 := HL.out; have hz := HZ.out; refine ⟨(w64 (by omega) (by omega)).trans (by omega), by omega, by omega⟩, ⟨h9.out.symm⟩, HB3⟩
      · have d0 : decide (z < (l.length : Int)) = false := decide_eq_false hz
        have hz := Aside0.mk hz
        rename ¬ z < (l.length : Int) => hz'
        clear hz' hi
        go_wp2
        go_ret
        refine ⟨?_, HB.out⟩
        have h1 := HI.out
        have h2 := hz.out
        rw [← HR.out, show i = l.length by omega, List.drop_length]
        rfl
end Go.Proofs.YtbekgkikgcmmaaaDoor.HBitE

/- How a value of layer 1 is laid down, whatever its kind: in a key, in a row. -/
set_option linter.unusedVariables false
set_option linter.unusedSimpArgs false
namespace Go.Proofs.YtbekgkikgcmmaaaDoor.HBitF
open Go.RowKit Go.Proofs.YtbekgkikgcmmaaaDoor.PBit Go.Proofs.YtbekgkikgcmmaaaDoor.HBase Go.Proofs.YtbekgkikgcmmaaaDoor.HUv Go.Proofs.YtbekgkikgcmmaaaDoorW.PrintWords Go.Proofs.YtbekgkikgcmmaaaDoorW.PrintLast Go.Proofs.YtbekgkikgcmmaaaDoorW.PrintMore Go.Proofs.YtbekgkikgcmmaaaDoor.HCore Go.Proofs.YtbekgkikgcmmaaaDoor.HBitR Go.Proofs.YtbekgkikgcmmaaaDoor.HBitV Go.Proofs.YtbekgkikgcmmaaaDoor.HBitG Go.Proofs.YtbekgkikgcmmaaaDoor.HBitK Go.Proofs.YtbekgkikgcmmaaaDoor.HBitC Go.Proofs.YtbekgkikgcmmaaaDoor.HBitL Go.Proofs.YtbekgkikgcmmaaaDoor.HBitT Go.Proofs.YtbekgkikgcmmaaaDoor.HBitE

/-- How many bytes a number wants. -/
def nb (u : Nat) : Nat := (Lib.bitLen u + 7) / 8
theorem bitLenAux_le : ∀ f x, Lib.bitLenAux f x ≤ f
  | 0, _ => Nat.le_refl _
  | f + 1, x => by
    have := bitLenAux_le f (x / 2)
    unfold Lib.bitLenAux
    split <;> omega
theorem nb_le (u : Nat) : nb u ≤ 8 := by
  have : Lib.bitLen u ≤ 64 := bitLenAux_le 64 u
  unfold nb
  omega
/-- The bytes of a number in a key. -/
def kint (i : Int) : List Int := if 0 ≤ i then [56 + (nb i.toNat : Int)] ++ bd i.toNat (nb i.toNat) else [55 - (nb (-1 - i).toNat : Int)] ++ bd (i + 18446744073709551616).toNat (nb (-1 - i).toNat)
theorem n_of (u : Nat) : wrap64 ((wrap64 ((Lib.bitLen u : Int) + 7)).tdiv 8) = (nb u : Int) := by
  have h : Lib.bitLen u ≤ 64 := bitLenAux_le 64 u
  unfold nb
  generalize Lib.bitLen u = L at h ⊢
  rw [w64 (n := (L : Int) + 7) (by omega) (by omega), Int.tdiv_eq_ediv_of_nonneg (by omega), w64 (by omega) (by omega)]
  omega
theorem tag_up (u : Nat) : wrap64 (56 + (nb u : Int)) % 256 = 56 + (nb u : Int) := by
  have := nb_le u
  rw [w64 (by omega) (by omega)]
  omega
theorem tag_dn (u : Nat) : wrap64 (55 - (nb u : Int)) % 256 = 55 - (nb u : Int) := by
  have := nb_le u
  rw [w64 (by omega) (by omega)]
  omega
theorem uw_up {i : Int} (h0 : 0 ≤ i) (h1 : i ≤ 9223372036854775807) : IntKind.u64.wrap i = i ∧ IntKind.u64.wrap (i / 9223372036854775808 * 18446744073709551615) = 0 := by
  refine ⟨wu64 h0 (by omega), ?_⟩
  rw [show i / 9223372036854775808 = 0 by omega]
  rfl
theorem uw_dn {i : Int} (h0 : i < 0) (h1 : -9223372036854775808 ≤ i) : IntKind.u64.wrap i = i + 18446744073709551616 ∧ IntKind.u64.wrap ((i + 18446744073709551616) / 9223372036854775808 * 18446744073709551615) = 18446744073709551615 := by
  refine ⟨by rw [wu64_mod]; omega, ?_⟩
  rw [show (i + 18446744073709551616) / 9223372036854775808 = 1 by omega]
  rfl
theorem lay_int (base : Nat) (v : Value) (xs : List Int) (x : S33) (w : World) (hb : Aside0 (base ≤ w.heap.size)) (hl : Aside0 (xs.length ≤ 1000000)) (HO : Aside0 (Kd.R (Kd.int .u8) 5 w base (fun _ => True) v xs))
    (h1 : Aside0 (-9223372036854775808 ≤ x.f1 ∧ x.f1 ≤ 9223372036854775807)) : Calls Tryd.prog 51 #[v, valV x] w fun e w' => Laid base w (xs ++ kint x.f1) e w' := by
  by_cases h : 0 ≤ x.f1
  · obtain ⟨a, b⟩ := uw_up h h1.out.2
    refine lay_int_walk base v xs x w hb hl HO x.f1 0 x.f1 _ _ _ _ _ a b (xor_u64_0 h (by have := h1.out; omega)) (xor_u64_0 h (by have := h1.out; omega)) (n_of x.f1.toNat) (tag_up _) (tag_dn _) true rfl ⟨h, by have := h1.out; omega⟩ ⟨rfl⟩ ⟨by omega, by have := nb_le x.f1.toNat; omega⟩ ⟨h, by have := h1.out; omega⟩ ⟨?_⟩
    unfold kint
    rw [if_pos h, List.append_assoc]
    rfl
  · obtain ⟨a, b⟩ := uw_dn (i := x.f1) (by omega) h1.out.1
    have e0 : Go.bits .xor .u64 (x.f1 + 18446744073709551616) 18446744073709551615 = -1 - x.f1 := by rw [xor_u64_m1 (by have := h1.out; omega) (by omega)]; omega
    have e1 : Go.bits .xor .u64 (-1 - x.f1) 18446744073709551615 = x.f1 + 18446744073709551616 := by rw [xor_u64_m1 (by omega) (by have := h1.out; omega)]; omega
    refine lay_int_walk base v xs x w hb hl HO _ _ (-1 - x.f1) _ _ _ _ _ a b e0 e1 (n_of (-1 - x.f1).toNat) (tag_up _) (tag_dn _) false rfl ⟨by omega, by have := h1.out; omega⟩ ⟨rfl⟩ ⟨by omega, by have := nb_le (-1 - x.f1).toNat; omega⟩ ⟨by have := h1.out; omega, by omega⟩ ⟨?_⟩
    unfold kint
    rw [if_neg h, List.append_assoc]
    rfl
/-- The bytes of a value in a key; in a row. -/
def kb (x : S33) : List Int := if x.f0 = 0 then [16] else if x.f0 = 1 then [32 + x.f1] else if x.f0 = 2 then kint x.f1 else [80] ++ zi x.f2 ++ [0, 1]
def cb (x : S33) : List Int := if x.f0 = 0 then [] else if x.f0 = 1 then [x.f1] else if x.f0 = 2 then bytesOf (uvb (zig x.f1).toNat) else bytesOf (uvb x.f2.size) ++ bytesOf x.f2
/-- A function lays a value down so. -/
structure LayOf (x : S33) (ys : List Int) (f : Nat) : Prop where
  ent : ∃ fn, Tryd.prog.funcs[f]? = some fn ∧ (fn.name == "runtime.NumGoroutine") = false ∧ fn.body.isSome = true
  run : ∀ (base : Nat) (v : Value) (xs : List Int) (w : World), Tab w → 1 < base → base ≤ w.heap.size → xs.length ≤ 1000000 → Kd.R (Kd.int .u8) 5 w base (fun _ => True) v xs →
    Calls Tryd.prog f #[v, valV x] w fun e w' => Laid base w (xs ++ ys) e w'
theorem bool_of {i : Int} (h0 : -9223372036854775808 ≤ i ∧ i ≤ 9223372036854775807) (h : IntKind.u64.wrap i < 2) : i = 0 ∨ i = 1 := by
  rw [wu64_mod] at h
  omega
theorem lay_of (x : S33) (hc : chk1 x = 0) (hr : -9223372036854775808 ≤ x.f1 ∧ x.f1 ≤ 9223372036854775807) :
    ∃ fl fc fb, codV x.f0 = .agg #[fv fl, fv fc, fv fb] ∧ LayOf x (kb x) fl ∧ LayOf x (cb x) fc := by
  unfold chk1 at hc
  by_cases hA : x.f0 < 0
  · rw [if_pos hA] at hc; cases hc
  rw [if_neg hA] at hc
  by_cases hB : 4 ≤ x.f0
  · rw [if_pos hB] at hc; cases hc
  rw [if_neg hB] at hc
  cases hv : vld x with
  | false => rw [if_pos hv] at hc; cases hc
  | true =>
  rw [if_neg (by rw [hv]; decide)] at hc
  by_cases hs : 4096 < (x.f2.size : Int)
  · rw [if_pos hs] at hc; cases hc
  have h4 : x.f0 = 0 ∨ x.f0 = 1 ∨ x.f0 = 2 ∨ x.f0 = 3 := by omega
  rcases h4 with h | h | h | h
  · refine ⟨44, 45, 46, by unfold codV; rw [if_pos h], ⟨⟨Tryd.f44, Tryd.func44, by kernel_rfl, by kernel_rfl⟩, ?_⟩, ⟨⟨Tryd.f45, Tryd.func45, by kernel_rfl, by kernel_rfl⟩, ?_⟩⟩
    · intro base v xs w hT h1 hb hl HO
      rw [show kb x = [16] from if_pos h]
      exact lay_null base v xs x w ⟨hb⟩ ⟨hl⟩ ⟨HO⟩
    · intro base v xs w hT h1 hb hl HO
      rw [show cb x = [] from if_pos h]
      exact col_null base v xs x w ⟨hb⟩ ⟨hl⟩ ⟨HO⟩
  · have hf : x.f1 = 0 ∨ x.f1 = 1 := by
      refine bool_of hr ?_
      unfold vld at hv
      rw [if_neg (by omega), if_neg (by omega), if_pos h, Bool.and_eq_true] at hv
      exact of_decide_eq_true hv.1
    refine ⟨47, 48, 49, by unfold codV; rw [if_neg (by omega), if_pos h], ⟨⟨Tryd.f47, Tryd.func47, by kernel_rfl, by kernel_rfl⟩, ?_⟩, ⟨⟨Tryd.f48, Tryd.func48, by kernel_rfl, by kernel_rfl⟩, ?_⟩⟩
    · intro base v xs w hT h1 hb hl HO
      rw [show kb x = [32 + x.f1] from (if_neg (by omega)).trans (if_pos h)]
      exact lay_bool base v xs x w ⟨hb⟩ ⟨hl⟩ ⟨HO⟩ ⟨hf⟩
    · intro base v xs w hT h1 hb hl HO
      rw [show cb x = [x.f1] from (if_neg (by omega)).trans (if_pos h)]
      exact col_bool base v xs x w ⟨hb⟩ ⟨hl⟩ ⟨HO⟩ ⟨hf⟩
  · refine ⟨51, 52, 54, by unfold codV; rw [if_neg (by omega), if_neg (by omega), if_pos h], ⟨⟨Tryd.f51, Tryd.func51, by kernel_rfl, by kernel_rfl⟩, ?_⟩, ⟨⟨Tryd.f52, Tryd.func52, by kernel_rfl, by kernel_rfl⟩, ?_⟩⟩
    · intro base v xs w hT h1 hb hl HO
      rw [show kb x = kint x.f1 from (if_neg (by omega)).trans ((if_neg (by omega)).trans (if_pos h))]
      exact lay_int base v xs x w ⟨hb⟩ ⟨hl⟩ ⟨HO⟩ ⟨hr⟩
    · intro base v xs w hT h1 hb hl HO
      rw [show cb x = bytesOf (uvb (zig x.f1).toNat) from (if_neg (by omega)).trans ((if_neg (by omega)).trans (if_pos h))]
      exact col_int base v xs x w ⟨hb⟩ ⟨hl⟩ ⟨HO⟩ ⟨hr⟩
  · refine ⟨56, 57, 58, by unfold codV; rw [if_neg (by omega), if_neg (by omega), if_neg (by omega)], ⟨⟨Tryd.f56, Tryd.func56, by kernel_rfl, by kernel_rfl⟩, ?_⟩, ⟨⟨Tryd.f57, Tryd.func57, by kernel_rfl, by kernel_rfl⟩, ?_⟩⟩
    · intro base v xs w hT h1 hb hl HO
      rw [show kb x = [80] ++ zi x.f2 ++ [0, 1] from (if_neg (by omega)).trans ((if_neg (by omega)).trans (if_neg (by omega)))]
      obtain ⟨m, hm⟩ := hT.ml
      rw [← List.append_assoc, ← List.append_assoc]
      exact lay_text base v xs x w ⟨hb⟩ ⟨hl⟩ ⟨HO⟩ m ⟨hm, h1⟩ ⟨by omega⟩
    · intro base v xs w hT h1 hb hl HO
      rw [show cb x = bytesOf (uvb x.f2.size) ++ bytesOf x.f2 from (if_neg (by omega)).trans ((if_neg (by omega)).trans (if_neg (by omega)))]
      exact col_text base v xs x w ⟨hb⟩ ⟨hl⟩ ⟨HO⟩ ⟨by omega⟩
end Go.Proofs.YtbekgkikgcmmaaaDoor.HBitF

/- Key and Row of layer 1: what they tell of any list of values. -/
set_option linter.unusedVariables false
set_option linter.unusedSimpArgs false
namespace Go.Proofs.YtbekgkikgcmmaaaDoor.HBitX
open Go.RowKit Go.Proofs.YtbekgkikgcmmaaaDoor.PBit Go.Proofs.YtbekgkikgcmmaaaDoor.HBase Go.Proofs.YtbekgkikgcmmaaaDoor.HUv Go.Proofs.YtbekgkikgcmmaaaDoorW.PrintWords Go.Proofs.YtbekgkikgcmmaaaDoorW.PrintLast Go.Proofs.YtbekgkikgcmmaaaDoorW.PrintMore Go.Proofs.YtbekgkikgcmmaaaDoor.HCore Go.Proofs.YtbekgkikgcmmaaaDoor.HBitR Go.Proofs.YtbekgkikgcmmaaaDoor.HBitV Go.Proofs.YtbekgkikgcmmaaaDoor.HBitG Go.Proofs.YtbekgkikgcmmaaaDoor.HBitK Go.Proofs.YtbekgkikgcmmaaaDoor.HBitC Go.Proofs.YtbekgkikgcmmaaaDoor.HBitL Go.Proofs.YtbekgkikgcmmaaaDoor.HBitT Go.Proofs.YtbekgkikgcmmaaaDoor.HBitE Go.Proofs.YtbekgkikgcmmaaaDoor.HBitF

section
variable {P : Program} {ops : Array Oper} {Q : Exit → Act → World → Prop}
/-- A call of a function that a value names. -/
theorem goesV_ {oi : Oper} {N : Option Tmp} {a : Act} {w : World} {K : Act → World → Prop} {f : FuncId} {c : Tmp} {os : Array Operand} {ts : Array TypeId} (hent : ∃ fn, P.funcs[f]? = some fn ∧ (fn.name == "runtime.NumGoroutine") = false ∧ fn.body.isSome = true) (args : Array Value)
    (hw : Region.wanted oi (yielded ops a.tmps) = true) (hN : oi.dst = N) (hop : oi.op = .call { callee := .value (.tmp c), args := os, argTypes := ts }) (hc : a.tmps.getD c undef = .func (.func f) #[] #[]) (hargs : os.map a.eval = args)
    (h : Calls P f args w fun e w' => ∃ v, e = .returned v ∧ K (a.put N v) w') : if Region.wanted oi (yielded ops a.tmps) = true then Oper.wp P oi a w K Q else K (a.put N undef) w := by
  obtain ⟨fn, hf, hname, hb⟩ := hent
  refine call_ f args hw hN ?_ h
  have he := enters_ hf hname hb args w
  have hc2 : a.eval (.tmp c) = .func (.func f) #[] #[] := hc
  unfold execOp
  simp [hop, resolve, Deferred.ofValue, invoke, hc2, hargs, he]
end
theorem zi_len (s : ByteArray) : (zi s).length ≤ 2 * s.size := by
  unfold zi
  rw [bytesOf_length]
  show (zz s.data.toList).toArray.size ≤ _
  rw [List.size_toArray]
  have := zz_len s.data.toList
  rw [Array.length_toList] at this
  exact this
theorem bd_len (U : Nat) : ∀ n, (bd U n).length = n
  | 0 => rfl
  | n + 1 => by rw [bd, List.length_cons, bd_len U n]
theorem kint_len (i : Int) : (kint i).length ≤ 9 := by
  unfold kint
  split <;> rw [List.length_append, bd_len, List.length_singleton] <;> first | (have := nb_le i.toNat; omega) | (have := nb_le (-1 - i).toNat; omega)
theorem size_of {x : S33} (h : chk1 x = 0) : x.f2.size ≤ 4096 := by
  unfold chk1 at h
  by_cases hs : 4096 < (x.f2.size : Int)
  · split at h
    · cases h
    · split at h
      · cases h
      · split at h
        · cases h
        · first | (rw [if_pos hs] at h; cases h) | cases h
  · omega
theorem kb_len {x : S33} (h : chk1 x = 0) : (kb x).length ≤ 10000 := by
  have := size_of h
  have := zi_len x.f2
  have := kint_len x.f1
  unfold kb
  split
  · simp
  · split
    · simp
    · split
      · omega
      · simp only [List.length_append, List.length_cons, List.length_nil]; omega
theorem cb_len {x : S33} (h : chk1 x = 0) : (cb x).length ≤ 10000 := by
  have := size_of h
  have e1 : (uvb (zig x.f1).toNat).size ≤ 10 := by rw [uvb_len]; exact uvl_len 10 _
  have e2 : (uvb x.f2.size).size ≤ 10 := by rw [uvb_len]; exact uvl_len 10 _
  unfold cb
  split
  · simp
  · split
    · simp
    · split
      · rw [bytesOf_length]; omega
      · rw [List.length_append, bytesOf_length, bytesOf_length]; omega
theorem chkL_all : ∀ l : List S33, chkL l = 0 → ∀ x ∈ l, chk1 x = 0
  | [], _, x, hx => by cases hx
  | y :: r, h, x, hx => by
    by_cases hy : chk1 y = 0
    · rw [chkL, if_pos hy] at h
      rcases List.mem_cons.1 hx with rfl | hx
      · exact hy
      · exact chkL_all r h x hx
    · rw [chkL, if_neg hy] at h
      exact absurd h hy
theorem chk_all {l : List S33} (h : chk l = 0) : l.length ≤ 16 ∧ ∀ x ∈ l, chk1 x = 0 := by
  unfold chk at h
  by_cases hl : 16 < (l.length : Int)
  · rw [if_pos hl] at h; cases h
  · rw [if_neg hl] at h
    exact ⟨by omega, chkL_all l h⟩
theorem rd_mem (l : List S33) (i : Nat) (hi : i < l.length) : rd_T33 l (i : Int) ∈ l ∧ l.take (i + 1) = l.take i ++ [rd_T33 l (i : Int)] := by
  have e : rd_T33 l (i : Int) = l[i] := by
    unfold rd_T33
    simp [List.getD, List.getElem?_eq_getElem hi]
  rw [e]
  exact ⟨List.getElem_mem hi, (List.take_append_getElem hi).symm⟩
theorem flat_len (g : S33 → List Int) : ∀ l : List S33, (∀ x ∈ l, (g x).length ≤ 10000) → (l.flatMap g).length ≤ 10000 * l.length
  | [], _ => Nat.zero_le _
  | y :: r, h => by
    have h1 := flat_len g r (fun x hx => h x (List.mem_cons_of_mem _ hx))
    have h2 := h y List.mem_cons_self
    rw [List.flatMap_cons, List.length_append, List.length_cons]
    omega
theorem kind_of {x : S33} (h : chk1 x = 0) : 0 ≤ x.f0 ∧ x.f0 ≤ 3 := by
  unfold chk1 at h
  by_cases hA : x.f0 < 0
  · rw [if_pos hA] at h; cases h
  rw [if_neg hA] at h
  by_cases hB : 4 ≤ x.f0
  · rw [if_pos hB] at h; cases h
  omega
/-- Each value's number is a whole number of 64 bits. -/
def inr (l : List S33) : Prop := ∀ x ∈ l, -9223372036854775808 ≤ x.f1 ∧ x.f1 ≤ 9223372036854775807
/-- What Key tells. -/
def keyB (l : List S33) : ByteArray := if chk l = 0 then strOfNums (l.flatMap kb) else ⟨#[]⟩
theorem blk1 {w : World} (h : Tab w) : 1 < w.heap.size := by
  obtain ⟨m, hm⟩ := h.ml
  exact World.block_lt_of_cell? w _ hm
set_option maxRecDepth 100000 in
set_option maxHeartbeats 4000000 in
theorem key_any (A0 : Option Addr) (n0 : Nat) (l : List S33) (w : World) (hT : Aside0 (Tab w)) (hr : Aside0 (Kd.C k33 w A0 l.length l)) (hn : Aside0 (inr l)) :
    Calls Tryd.prog 9 #[.slice A0 l.length n0] w fun e w' => e = .returned (.tuple #[.string (keyB l), .int .i64 (chk l)]) ∧ Below w.heap.size w w' := by
  have hu := Tryd.underlying33
  have HB := Aside0.mk (Below.refl w.heap.size w)
  by_cases hk0 : chk l = 0
  · have hkb : keyB l = strOfNums (l.flatMap kb) := if_pos hk0
    obtain ⟨hl16, hall⟩ := chk_all hk0
    have HL := Aside0.mk hl16
    have HA := Aside0.mk hall
    rw [hkb, hk0]
    have HK0 := Aside0.mk hk0
    clear hk0 hl16 hall hkb
    have HO : Aside0 (Kd.R (Kd.int .u8) 5 w w.heap.size (fun _ => True) (.slice none 0 0) ((l.take 0).flatMap kb)) := ⟨Kd.R_nil _ _ _ _ _⟩
    have hz1 : Aside0 (1 < w.heap.size) := ⟨blk1 hT.out⟩
    go_enter Tryd.func9, Tryd.ntmps9
    go_wp2_with (go_at_call 26; refine (check_any A0 n0 l _ hT hr).mono ?_; rintro e w1 ⟨rfl, hb⟩; rw [HK0.out]; have HB := Aside0.mk hb; have HO := Aside0.mk (Kd.R_below HO.out hb); clear hb)
    go_loopg [5, 15] 17 (fun gk v5 v15 wr => ∃ (i : Nat) (z : Int), v15 = .int .i64 z ∧ Aside0 (z = (i : Int) ∧ i ≤ l.length ∧ l.length < i + gk) ∧ Aside0 (Kd.R (Kd.int .u8) 5 wr w.heap.size (fun _ => True) v5 ((l.take i).flatMap kb)) ∧ Aside0 (Below w.heap.size w wr))
    case atStart => exact ⟨0, _, rfl, by have := HL.out; refine ⟨rfl, by omega, by omega⟩, HO, HB⟩
    case round =>
      clear HO HB
      obtain ⟨i, z, rfl, HI, HO, HB⟩ := hrel
      have hi := HI.out
      by_cases hz : z < (l.length : Int)
      · have d0 : decide (z < (l.length : Int)) = true := decide_eq_true hz
        have p0 : (0 ≤ z) = True := eq_true (by omega)
        have HZ := Aside0.mk hz
        have p1 : (z < (l.length : Int)) = True := eq_true hz
        have HS := Aside0.mk (rd_mem l i (by omega))
        rw [← HI.out.1] at HS
        obtain ⟨ad, e0, x0, x1, x2⟩ := at_T33 hr.out z (by omega) hz
        cases e0
        replace x0 := (HB.out.cell (World.block_lt_of_cell? w _ x0)).trans x0
        replace x1 := (HB.out.cell (World.block_lt_of_cell? w _ x1)).trans x1
        replace x2 := (HB.out.cell (World.block_lt_of_cell? w _ x2)).trans x2
        have hZL := flat_len kb (l.take i) (fun x hx => kb_len (HA.out x (List.mem_of_mem_take hx)))
        have HZL : Aside0 (((l.take i).flatMap kb).length ≤ 1000000) := ⟨by have := HL.out; have := List.length_take_le i l; omega⟩
        clear hz hi hZL
        generalize rd_T33 l z = x at x0 x1 x2 HS
        have hk1 : chk1 x = 0 := HA.out x HS.out.1
        have hk4 : Aside0 (0 ≤ x.f0 ∧ x.f0 ≤ 3) := ⟨kind_of hk1⟩
        obtain ⟨fl, fc, fb, hcod, hlay, hcol⟩ := lay_of x hk1 (hn.out x HS.out.1)
        have hcod := Aside0.mk hcod
        have HX := Aside0.mk (Bx.mk (b := wr.heap.size) (x := x) (Kd.R_below HO.out (below_alloc (Below.refl _ _) (.cells #[.int .i64 x.f0, .int .i64 x.f1, .string x.f2] 33))) (heap_alloc_new wr (.cells #[.int .i64 x.f0, .int .i64 x.f1, .string x.f2] 33)) (below_alloc HB.out _) (Nat.le_trans (below_alloc HB.out (.cells #[.int .i64 x.f0, .int .i64 x.f1, .string x.f2] 33)).size (Nat.le_refl _)))
        have hfld : ∀ W : World, (Instr.field 56 (.agg #[fv fl, fv fc, fv fb]) 0).run Tryd.prog W = .ok (fv fl) W := fun W => by kernel_rfl
        clear hk1 hcol HO HB
        go_wp2_with fail
        generalize hbx : wr.heap.size = b at HX ⊢
        refine start_ (n := 8) (S := fun w' => w'.cell? ⟨b, 0, none⟩ = some (.int .i64 x.f0) ∧ w'.cell? ⟨b, 1, none⟩ = some (.int .i64 x.f1) ∧ w'.cell? ⟨b, 2, none⟩ = some (.string x.f2)) (ds := [6]) #[false, false, false, false, false, false, false, false] (by kernel_rfl) rfl rfl (HX.out.drew.c) (fun hHeld => ?_)
        have hdr := Aside0.mk HX.out.drew
        generalize World.drew _ = w2 at hHeld hdr ⊢
        clear HX
        have HX := hdr
        clear hdr
        refine pure_ (i := 0) (N := some 19) (v := ?_) (a' := ?_) #[true, false, false, false, false, false, false, false] rfl rfl (by kernel_rfl) (fun _ _ _ h => h) (Or.inl ⟨by rfl, ?_⟩) ?_ ?_
        rotate_left
        · intro w'
          go_simp
          with_reducible rfl
        rotate_left
        · simp only [Act.put, List.setIfInBounds_toArray, List.set_cons_zero, List.set_cons_succ, i64_w, i32_w]
          rfl
        refine take_ (i := 1) (N := some 20) (v := ?_) (a' := ?_) #[true, true, false, false, false, false, false, false] rfl rfl (by kernel_rfl) (fun _ _ _ h => h) (Or.inl ⟨by rfl, ?_⟩) hHeld ?_ ?_
        rotate_left
        · intro w' s0
          obtain ⟨s0, s1, s2⟩ := s0
          go_simp
          with_reducible rfl
        rotate_left
        · simp only [Act.put, List.setIfInBounds_toArray, List.set_cons_zero, List.set_cons_succ, i64_w, i32_w]
          rfl
        refine pure_ (i := 4) (N := some 23) (v := ?_) (a' := ?_) #[true, true, false, false, true, false, false, false] rfl rfl (by kernel_rfl) (fun _ _ _ h => h) (Or.inl ⟨by rfl, ?_⟩) ?_ ?_
        rotate_left
        · intro w'
          go_simp
          with_reducible rfl
        rotate_left
        · simp only [Act.put, List.setIfInBounds_toArray, List.set_cons_zero, List.set_cons_succ, i64_w, i32_w]
          rfl
        refine take_ (i := 5) (N := some 24) (v := ?_) (a' := ?_) #[true, true, false, false, true, true, false, false] rfl rfl (by kernel_rfl) (fun _ _ _ h => h) (Or.inl ⟨by rfl, ?_⟩) hHeld ?_ ?_
        rotate_left
        · intro w' s0
          obtain ⟨s0, s1, s2⟩ := s0
          go_simp
          with_reducible rfl
        rotate_left
        · simp only [Act.put, List.setIfInBounds_toArray, List.set_cons_zero, List.set_cons_succ, i64_w, i32_w]
          rfl
        refine one_ (i := 2) (N := some 21) #[true, true, true, false, true, true, false, false] rfl rfl (by kernel_rfl) (by decide) (fun K hK => ?_)
        refine goes_ Tryd.func27 (by kernel_rfl) rfl #[.int .i64 x.f0] (by rfl) rfl rfl (by (try simp only [List.map_toArray, List.map_cons, List.map_nil]); first | done | rfl) ?_
        refine (codecs_is _ hk4.out _).mono ?_
        rintro e w3 ⟨rfl, hbl⟩
        rw [hcod.out]
        refine ⟨_, rfl, ?_⟩
        have HX := Aside0.mk (HX.out.below hbl)
        clear hbl
        refine hK.out _ _ (HX.out.c) (fun hHeld => ?_)
        clear hK K
        refine norm_ (a' := ?_) ?_ ?_
        rotate_left
        · show Act.put _ (some 21) _ = _
          simp only [Act.put, List.setIfInBounds_toArray, List.set_cons_zero, List.set_cons_succ, i64_w, i32_w]
          rfl
        refine pure_ (i := 3) (N := some 22) (v := ?_) (a' := ?_) #[true, true, true, true, true, true, false, false] rfl rfl (by kernel_rfl) (fun _ _ _ h => h) (Or.inl ⟨by rfl, ?_⟩) ?_ ?_
        rotate_left
        · intro w'
          go_simp
          with_reducible rfl
        rotate_left
        · simp only [Act.put, List.setIfInBounds_toArray, List.set_cons_zero, List.set_cons_succ, i64_w, i32_w]
          rfl
        refine last_ (i := 6) (N := some 25) #[true, true, true, true, true, true, true, false] rfl rfl (by kernel_rfl) (by decide) (fun K hK => ?_)
        refine goesV_ (c := 22) hlay.ent #[_, valV x] (by rfl) rfl rfl (by rfl) (by (try simp only [List.map_toArray, List.map_cons, List.map_nil]); first | done | rfl) ?_
        refine (hlay.run w.heap.size _ ((l.take i).flatMap kb) _ (hT.out.below HX.out.bel) (blk1 hT.out) HX.out.size (by have := HZL.out; omega) HX.out.own).mono ?_
        rintro e w4 ⟨v4, rfl, ho4, hb4⟩
        refine ⟨_, rfl, ?_⟩
        have HO := Aside0.mk ho4
        have HB := Aside0.mk (HX.out.bel.trans hb4)
        clear ho4 hb4 HX
        refine hK.out _ _ ?_
        clear hK K
        refine norm_ (a' := ?_) ?_ ?_
        rotate_left
        · show Act.put _ (some 25) _ = _
          simp only [Act.put, List.setIfInBounds_toArray, List.set_cons_zero, List.set_cons_succ, i64_w, i32_w]
          rfl
        refine pure_ (i := 7) (N := some 5) (v := ?_) (a' := ?_) #[true, true, true, true, true, true, true, true] rfl rfl (by kernel_rfl) (fun _ _ _ h => h) (Or.inl ⟨by rfl, ?_⟩) ?_ ?_
        rotate_left
        · intro w'
          go_simp
          with_reducible rfl
        rotate_left
        · simp only [Act.put, List.setIfInBounds_toArray, List.set_cons_zero, List.set_cons_succ, i64_w, i32_w]
          rfl
        refine done_ (by kernel_rfl) ?_
        go_wp2
        cases gk with
        | zero => exact absurd HI.out.2.2 (by have := HI.out; have := HZ.out; omega)
        | succ k =>
        go_roundg k
        case measure => omega
        case rel => exact ⟨i + 1, _, rfl, by have := HI.out; have hz := HZ.out; have := HL.out; refine ⟨(w64 (by omega) (by omega)).trans (by omega), by omega, by omega⟩, ⟨by rw [HS.out.2, List.flatMap_append, List.flatMap_singleton]; exact HO.out⟩, HB⟩
      · have d0 : decide (z < (l.length : Int)) = false := decide_eq_false hz
        have hz := Aside0.mk hz
        rename ¬ z < (l.length : Int) => hz'
        clear hz' hi
        have hcv := own_string (P := Tryd.prog) Tryd.underlying52 Tryd.underlying5 Tryd.underlying9 (Kd.own_of_R HO.out)
        go_wp2
        go_ret2
        refine ⟨?_, HB.out⟩
        have h1 := HI.out
        have h2 := hz.out
        rw [show i = l.length by omega, List.take_length]
        rfl
  · have hkb : keyB l = ⟨#[]⟩ := if_neg hk0
    rw [hkb]
    have hb0 : (chk l == 0) = false := beq_eq_false_iff_ne.2 hk0
    have hb1 : (chk l != 0) = true := bne_iff_ne.2 hk0
    clear hk0 hkb
    go_enter Tryd.func9, Tryd.ntmps9
    go_wp2_with (go_at_call 26; refine (check_any A0 n0 l _ hT hr).mono ?_; rintro e w1 ⟨rfl, hb⟩; have HB := Aside0.mk hb; clear hb)
    go_ret2
    exact ⟨rfl, HB.out⟩
/-- The kinds of the first i values, four to a byte: byte j. -/
def kwf (l : List S33) : Nat → Nat → Int
  | 0, _ => 0
  | i + 1, j => kwf l i j + if i / 4 = j then (rd_T33 l (i : Int)).f0 * 4 ^ (i % 4) else 0
def hdl (l : List S33) (n i : Nat) : List Int := (l.length : Int) :: (List.range n).map (kwf l i)
theorem kwf_past (l : List S33) : ∀ i j, i ≤ 4 * j → kwf l i j = 0
  | 0, _, _ => rfl
  | i + 1, j, h => by
    rw [kwf, kwf_past l i j (by omega), if_neg (by omega)]
    rfl
theorem kwf_lt (l : List S33) (hk : ∀ x ∈ l, 0 ≤ x.f0 ∧ x.f0 ≤ 3) (i : Nat) (hi : i < l.length) : 0 ≤ kwf l i (i / 4) ∧ kwf l i (i / 4) < 4 ^ (i % 4) := by
  have one : ∀ m, m < l.length → 0 ≤ (rd_T33 l (m : Int)).f0 ∧ (rd_T33 l (m : Int)).f0 ≤ 3 := fun m hm => hk _ (rd_mem l m hm).1
  generalize hj : i / 4 = j
  have h0 := kwf_past l (4 * j) j (Nat.le_refl _)
  have hc : i = 4 * j ∨ i = 4 * j + 1 ∨ i = 4 * j + 2 ∨ i = 4 * j + 3 := by omega
  rcases hc with rfl | rfl | rfl | rfl
  · rw [h0, show 4 * j % 4 = 0 by omega]; decide
  · have a0 := one (4 * j) (by omega)
    rw [kwf, h0, if_pos (by omega), show 4 * j % 4 = 0 by omega, show (4 * j + 1) % 4 = 1 by omega]
    omega
  · have a0 := one (4 * j) (by omega)
    have a1 := one (4 * j + 1) (by omega)
    rw [kwf, kwf, h0, if_pos (by omega), if_pos (by omega), show 4 * j % 4 = 0 by omega, show (4 * j + 1) % 4 = 1 by omega, show (4 * j + 2) % 4 = 2 by omega]
    omega
  · have a0 := one (4 * j) (by omega)
    have a1 := one (4 * j + 1) (by omega)
    have a2 := one (4 * j + 2) (by omega)
    rw [kwf, kwf, kwf, h0, if_pos (by omega), if_pos (by omega), if_pos (by omega), show 4 * j % 4 = 0 by omega, show (4 * j + 1) % 4 = 1 by omega, show (4 * j + 2) % 4 = 2 by omega, show (4 * j + 3) % 4 = 3 by omega]
    omega
theorem hdl_set (l : List S33) (n i : Nat) (hi : i / 4 < n) : hdl l n (i + 1) = (hdl l n i).set (1 + i / 4) (kwf l i (i / 4) + (rd_T33 l (i : Int)).f0 * 4 ^ (i % 4)) := by
  unfold hdl
  rw [Nat.add_comm 1, List.set_cons_succ]
  congr 1
  refine List.ext_getElem (by simp) fun j h1 h2 => ?_
  simp only [List.length_map, List.length_range] at h1
  rw [List.getElem_set, List.getElem_map, List.getElem_map, List.getElem_range, kwf]
  by_cases h : i / 4 = j
  · rw [if_pos h, if_pos h, h]
  · rw [if_neg h, if_neg h, Int.add_zero]
theorem hdl_at (l : List S33) (n i j : Nat) (hj : j < n) : rdOf (0 : Int) (hdl l n i) ((1 + j : Nat) : Int) = kwf l i j := by
  unfold rdOf hdl
  simp [List.getD, Nat.add_comm 1, hj]
theorem shl_fin : ∀ k : Fin 4, ∀ m : Fin 4, IntKind.u8.wrap ((k.val : Int) * 2 ^ (2 * m.val)) = (k.val : Int) * 4 ^ m.val := by decide +kernel
theorem shl_kind (k : Int) (m : Nat) (m2 : Int) (hm : m < 4) (h2 : m2 = ((2 * m : Nat) : Int)) (hk : 0 ≤ k ∧ k ≤ 3) : Op.shift .shl .u8 k .i64 m2 = pure (.int .u8 (k * 4 ^ m)) := by
  obtain ⟨k, rfl⟩ := Int.eq_ofNat_of_zero_le hk.1
  subst h2
  rw [shift_shl_u8 _ _ _ (by omega) (by omega), Int.toNat_natCast]
  exact congrArg (fun n => (pure (Value.int .u8 n) : Sem Value)) (shl_fin ⟨k, by omega⟩ ⟨m, hm⟩)
theorem or_fin : ∀ a : Fin 64, ∀ k : Fin 4, ∀ m : Fin 4, a.val < 4 ^ m.val → Go.bits .or .u8 (a.val : Int) ((k.val : Int) * 4 ^ m.val) = (a.val : Int) + (k.val : Int) * 4 ^ m.val := by decide +kernel
theorem or_kind (a k : Int) (m : Nat) (hm : m < 4) (h0 : 0 ≤ a) (h1 : a < 4 ^ m) (hk : 0 ≤ k ∧ k ≤ 3) : Go.bits .or .u8 a (k * 4 ^ m) = a + k * 4 ^ m := by
  obtain ⟨a, rfl⟩ := Int.eq_ofNat_of_zero_le h0
  obtain ⟨k, rfl⟩ := Int.eq_ofNat_of_zero_le hk.1
  have h2 : (4 : Int) ^ m = ((4 ^ m : Nat) : Int) := by rw [Int.natCast_pow]; rfl
  have h3 : a < 4 ^ m := by rw [h2] at h1; exact Int.ofNat_lt.1 h1
  have h4 : 4 ^ m ≤ 4 ^ 3 := Nat.pow_le_pow_right (by decide) (by omega)
  exact or_fin ⟨a, by omega⟩ ⟨k, by omega⟩ ⟨m, hm⟩ h3
/-- What Row tells. -/
def rowB (l : List S33) : ByteArray := if chk l = 0 then strOfNums (hdl l ((l.length + 3) / 4) l.length ++ l.flatMap cb) else ⟨#[]⟩
/-- A row of one's own that is not empty begins at a block's head. -/
theorem own_head8 {w : World} {base : Nat} {ok : Nat → Prop} {v : Value} {xs : List Int} (h : Kd.R (Kd.int .u8) 5 w base ok v xs) (hn : 0 < xs.length) : ∃ g c, v = .slice (some ⟨g, 0, none⟩) xs.length c ∧ base ≤ g := by
  obtain ⟨A, c, rfl⟩ := Kd.R_slice h
  obtain ⟨_, inner, ho, _⟩ := h
  have hb := own_base ho
  rcases ho.2 with ⟨hv, _⟩ | ⟨g, cap, cur, hv, _⟩
  · injection hv with _ h2 _; omega
  · injection hv with h1 _ h3
    subst h1
    exact ⟨g, c, rfl, hb g rfl⟩
theorem _root_.Go.Proofs.YtbekgkikgcmmaaaDoor.HBitL.Bx.at_ {base b g N c : Nat} {w W : World} {x : S33} {L : List Int} (h : Bx base w b x (.slice (some ⟨g, 0, none⟩) N c) L W) (q1 : Int) (h0 : 0 ≤ q1) (h1 : q1 < (N : Int)) (cur : Int) (hc : rdOf (0 : Int) L q1 = cur) :
    W.cell? ⟨g, q1.toNat, none⟩ = some (.int .u8 cur) ∧ W.frozen? ⟨g, q1.toNat, none⟩ = false := by
  have := Kd.R_celln (0 : Int) h.own q1 h0 h1
  rw [hc] at this
  exact this
set_option maxRecDepth 100000 in
set_option maxHeartbeats 4000000 in
theorem row_any (A0 : Option Addr) (n0 : Nat) (l : List S33) (w : World) (hT : Aside0 (Tab w)) (hr : Aside0 (Kd.C k33 w A0 l.length l)) (hn : Aside0 (inr l)) :
    Calls Tryd.prog 12 #[.slice A0 l.length n0] w fun e w' => e = .returned (.tuple #[.string (rowB l), .int .i64 (chk l)]) ∧ Below w.heap.size w w' := by
  have hu := Tryd.underlying33
  have HB := Aside0.mk (Below.refl w.heap.size w)
  by_cases hk0 : chk l = 0
  · have hkb : rowB l = strOfNums (hdl l ((l.length + 3) / 4) l.length ++ l.flatMap cb) := if_pos hk0
    obtain ⟨hl16, hall⟩ := chk_all hk0
    have HL := Aside0.mk hl16
    have HA := Aside0.mk hall
    rw [hkb, hk0]
    have HK0 := Aside0.mk hk0
    clear hk0 hall hkb
    have hz1 : Aside0 (1 < w.heap.size) := ⟨blk1 hT.out⟩
    obtain ⟨n, hN⟩ : ∃ n : Nat, (l.length + 3) / 4 = n := ⟨_, rfl⟩
    rw [hN]
    obtain ⟨Nn, e0, HE0⟩ : ∃ Nn : Int, wrap64 ((wrap64 ((l.length : Int) + 3)).tdiv 4) = Nn ∧ Aside0 (Nn = (n : Int)) := ⟨_, rfl, ⟨by
      rw [w64 (n := (l.length : Int) + 3) (by omega) (by omega), Int.tdiv_eq_ediv_of_nonneg (by omega), w64 (by omega) (by omega)]
      omega⟩⟩
    obtain ⟨N1, e1, HE1⟩ : ∃ N1 : Nat, wrap64 (1 + Nn) = (N1 : Int) ∧ Aside0 (N1 = 1 + n) := ⟨1 + n, by
      have := HE0.out
      exact (w64 (by omega) (by omega)).trans (by omega), ⟨rfl⟩⟩
    have hp1 : (0 < N1) = True := eq_true (by have := HE1.out; omega)
    have hp2 : ((0 : Int) < (N1 : Int)) = True := eq_true (by have := HE1.out; omega)
    have e2 : IntKind.u8.wrap (l.length : Int) = (l.length : Int) := by show ((l.length : Int) % 256 : Int) = _; omega
    have HN := Aside0.mk hN
    have HN4 : Aside0 (n ≤ 4) := ⟨by omega⟩
    clear hN hl16
    go_enter Tryd.func12, Tryd.ntmps12
    go_wp2_with (first | (go_at_call 26; refine (check_any A0 n0 l _ hT hr).mono ?_; rintro e w1 ⟨rfl, hb⟩; rw [HK0.out]; have HB := Aside0.mk hb; clear hb) | ((with_reducible refine gate_dst (N := 22) rfl ?_); go_loud (refine Kd.R_make (Kd.int .u8) _ 5 rfl (N := 22) rfl 52 _ _ rfl (wrap64 (1 + Nn)) rfl rfl Tryd.underlying52 (.int .u8 0) 1 info5 rfl (by decide) (by omega) 0 (ok := fun _ => True) (okp := fun _ => True) rfl (fun _ hk => hk) trivial (by rw [e1]; have := HE1.out; omega) (by rw [e1]; have := HE1.out; have := HN4.out; omega) (Below.refl _ _) (Nat.le_refl _) ?_; intro v5 w5 ho5 hb5 hg_ hnew_; clear hg_ hnew_; rw [e1, Int.toNat_natCast] at ho5; obtain ⟨g, c5, e5, hbase5⟩ := own_head8 ho5 (by rw [List.length_replicate]; have := HE1.out; omega); have hs5 := Aside0.mk HB.out.size; have HO := Aside0.mk (Kd.R_lower (e5 ▸ ho5) HB.out.size); have HB := Aside0.mk (below_step HB.out hb5); have HG : Aside0 (w.heap.size ≤ g) := ⟨Nat.le_trans hs5.out hbase5⟩; subst e5; have hq := Kd.R_celln (0 : Int) HO.out 0 (by decide) (by rw [List.length_replicate]; have := HE1.out; omega); have hc0 : w5.cell? ⟨g, 0, none⟩ = _ := hq.1; have hf0 : w5.frozen? ⟨g, 0, none⟩ = false := hq.2; clear hq; clear ho5 hb5 hbase5)) | ((with_reducible refine gate_store (t := 5) (p := 27) rfl ?_); go_loud (refine store_event (t := 5) (p := 27) (v := ?vo) (w1 := w5.setCell ⟨g, (0 : Int).toNat, none⟩ (.int .u8 (l.length : Int))) ?hg ?ho ?hn ?hr ?_; (case ho => rfl); (case hg => rfl); (case hn => rfl); (case hr => first | (go_simp; done) | (go_simp; rfl)); intro w6 hw; have HO := Aside0.mk (hw ▸ Kd.R_putn HO.out 0 (l.length : Int)); have HB := Aside0.mk (hw ▸ HB.out.setCell (p := ⟨g, (0 : Int).toNat, none⟩) HG.out (.int .u8 (l.length : Int))); clear hw hc0 hf0)))
    rw [List.length_replicate] at HO
    have HO : Aside0 (Kd.R (Kd.int .u8) 5 w6 w.heap.size (fun _ => True) (.slice (some ⟨g, 0, none⟩) N1 c5) (hdl l n 0)) := ⟨by
      have e9 : (List.replicate N1 (0 : Int)).set (0 : Int).toNat (l.length : Int) = hdl l n 0 := by
        rw [show N1 = n + 1 by have := HE1.out; omega]
        show (l.length : Int) :: List.replicate n (0 : Int) = _
        unfold hdl
        congr 1
        exact (List.eq_replicate_iff.2 ⟨by simp, fun b hb => by obtain ⟨_, _, rfl⟩ := List.mem_map.1 hb; rfl⟩).symm
      rw [← e9]
      exact HO.out⟩
    clear hs5
    go_loopg [30] 17 (fun gk v30 wr => ∃ (i : Nat) (z : Int), v30 = .int .i64 z ∧ Aside0 (z = (i : Int) ∧ i ≤ l.length ∧ l.length < i + gk) ∧ Aside0 (Kd.R (Kd.int .u8) 5 wr w.heap.size (fun _ => True) (.slice (some ⟨g, 0, none⟩) N1 c5) (hdl l n i)) ∧ Aside0 (Below w.heap.size w wr))
    case atStart => exact ⟨0, _, rfl, by have := HL.out; refine ⟨rfl, by omega, by omega⟩, HO, HB⟩
    case round =>
      clear HO HB
      obtain ⟨i, z, rfl, HI, HO, HB⟩ := hrel
      have hi := HI.out
      by_cases hz : z < (l.length : Int)
      · have d0 : decide (z < (l.length : Int)) = true := decide_eq_true hz
        have p0 : (0 ≤ z) = True := eq_true (by omega)
        have HZ := Aside0.mk hz
        have p1 : (z < (l.length : Int)) = True := eq_true hz
        have HS := Aside0.mk (rd_mem l i (by omega))
        have hq4 : i / 4 < n := by have := HN.out; omega
        have HD := Aside0.mk (hdl_set l n i hq4)
        have HAt := Aside0.mk (hdl_at l n i (i / 4) hq4)
        have HLt := Aside0.mk (kwf_lt l (fun x hx => kind_of (HA.out x hx)) i (by omega))
        rw [← HI.out.1] at HS HD
        obtain ⟨ad, e9, x0, x1, x2⟩ := at_T33 hr.out z (by omega) hz
        cases e9
        replace x0 := (HB.out.cell (World.block_lt_of_cell? w _ x0)).trans x0
        replace x1 := (HB.out.cell (World.block_lt_of_cell? w _ x1)).trans x1
        replace x2 := (HB.out.cell (World.block_lt_of_cell? w _ x2)).trans x2
        generalize rd_T33 l z = x at x0 x1 x2 HS HD
        generalize kwf l i (i / 4) = cur at HD HAt HLt
        have hk4 : Aside0 (0 ≤ x.f0 ∧ x.f0 ≤ 3) := ⟨kind_of (HA.out x HS.out.1)⟩
        have q1h : ((1 + i / 4 : Nat) : Int) < (N1 : Int) := by have := HE1.out; omega
        have hq := Kd.R_celln (0 : Int) HO.out ((1 + i / 4 : Nat) : Int) (by omega) q1h
        rw [HAt.out] at hq
        obtain ⟨q, b1, HQ⟩ : ∃ q : Int, wrap64 (z.tdiv 4) = q ∧ Aside0 (q = ((i / 4 : Nat) : Int)) := ⟨_, rfl, ⟨by rw [Int.tdiv_eq_ediv_of_nonneg (by omega), w64 (by omega) (by have := HL.out; omega)]; omega⟩⟩
        obtain ⟨q1, b2, HQ1⟩ : ∃ q1 : Int, wrap64 (1 + q) = q1 ∧ Aside0 (q1 = ((1 + i / 4 : Nat) : Int)) := ⟨_, rfl, ⟨by have := HQ.out; have := HL.out; exact (w64 (by omega) (by omega)).trans (by omega)⟩⟩
        rw [← HQ1.out] at hq q1h
        have b3 : (0 ≤ q1) = True := eq_true (by have := HQ1.out; omega)
        have b4 : (q1 < (N1 : Int)) = True := eq_true q1h
        obtain ⟨m, b5, HM⟩ : ∃ m : Int, z.tmod 4 = m ∧ Aside0 (m = ((i % 4 : Nat) : Int)) := ⟨_, rfl, ⟨by rw [Int.tmod_eq_emod_of_nonneg (by omega)]; omega⟩⟩
        obtain ⟨m2, b6, HM2⟩ : ∃ m2 : Int, wrap64 (2 * m) = m2 ∧ Aside0 (m2 = ((2 * (i % 4) : Nat) : Int)) := ⟨_, rfl, ⟨by have := HM.out; exact (w64 (by omega) (by omega)).trans (by omega)⟩⟩
        have b7 : IntKind.u8.wrap x.f0 = x.f0 := by show x.f0 % 256 = x.f0; have := hk4.out; omega
        have b8 : Op.shift .shl .u8 x.f0 .i64 m2 = pure (.int .u8 (x.f0 * 4 ^ (i % 4))) := shl_kind x.f0 (i % 4) m2 (by omega) HM2.out hk4.out
        have b9 : Go.bits .or .u8 cur (x.f0 * 4 ^ (i % 4)) = cur + x.f0 * 4 ^ (i % 4) := or_kind cur x.f0 (i % 4) (by omega) HLt.out.1 HLt.out.2 hk4.out
        have HX := Aside0.mk (Bx.mk (b := wr.heap.size) (x := x) (Kd.R_below HO.out (below_alloc (Below.refl _ _) (.cells #[.int .i64 x.f0, .int .i64 x.f1, .string x.f2] 33))) (heap_alloc_new wr (.cells #[.int .i64 x.f0, .int .i64 x.f1, .string x.f2] 33)) (below_alloc HB.out _) (Nat.le_trans (below_alloc HB.out (.cells #[.int .i64 x.f0, .int .i64 x.f1, .string x.f2] 33)).size (Nat.le_refl _)))
        have HC1 : Aside0 (0 ≤ q1 ∧ q1 < (N1 : Int) ∧ rdOf (0 : Int) (hdl l n i) q1 = cur) := ⟨⟨by have := HQ1.out; omega, q1h, by rw [HQ1.out]; exact HAt.out⟩⟩
        clear hz hi hq4 q1h hq HO HB
        go_wp2_with fail
        generalize hbx : wr.heap.size = b at HX ⊢
        refine start_ (n := 16) (S := fun w' => w'.cell? ⟨g, q1.toNat, none⟩ = some (.int .u8 cur) ∧ w'.cell? ⟨b, 0, none⟩ = some (.int .i64 x.f0)) (ds := [15]) #[false, false, false, false, false, false, false, false, false, false, false, false, false, false, false, false] (by kernel_rfl) rfl rfl (⟨(HX.out.drew.at_ q1 HC1.out.1 HC1.out.2.1 cur HC1.out.2.2).1, HX.out.drew.c.1⟩) (fun hHeld => ?_)
        have hdr := Aside0.mk HX.out.drew
        generalize World.drew _ = w2 at hHeld hdr ⊢
        clear HX
        have HX := hdr
        clear hdr
        refine pure_ (i := 0) (N := some 35) (v := ?_) (a' := ?_) #[true, false, false, false, false, false, false, false, false, false, false, false, false, false, false, false] rfl rfl (by kernel_rfl) (fun _ _ _ h => h) (Or.inl ⟨by rfl, ?_⟩) ?_ ?_
        rotate_left
        · intro w'
          go_simp
          with_reducible rfl
        rotate_left
        · simp only [Act.put, List.setIfInBounds_toArray, List.set_cons_zero, List.set_cons_succ, i64_w, i32_w]
          rfl
        refine pure_ (i := 1) (N := some 36) (v := ?_) (a' := ?_) #[true, true, false, false, false, false, false, false, false, false, false, false, false, false, false, false] rfl rfl (by kernel_rfl) (fun _ _ _ h => h) (Or.inl ⟨by rfl, ?_⟩) ?_ ?_
        rotate_left
        · intro w'
          go_simp
          with_reducible rfl
        rotate_left
        · simp only [Act.put, List.setIfInBounds_toArray, List.set_cons_zero, List.set_cons_succ, i64_w, i32_w]
          rfl
        refine pure_ (i := 2) (N := some 37) (v := ?_) (a' := ?_) #[true, true, true, false, false, false, false, false, false, false, false, false, false, false, false, false] rfl rfl (by kernel_rfl) (fun _ _ _ h => h) (Or.inl ⟨by rfl, ?_⟩) ?_ ?_
        rotate_left
        · intro w'
          go_simp
          with_reducible rfl
        rotate_left
        · simp only [Act.put, List.setIfInBounds_toArray, List.set_cons_zero, List.set_cons_succ, i64_w, i32_w]
          rfl
        refine pure_ (i := 3) (N := some 38) (v := ?_) (a' := ?_) #[true, true, true, true, false, false, false, false, false, false, false, false, false, false, false, false] rfl rfl (by kernel_rfl) (fun _ _ _ h => h) (Or.inl ⟨by rfl, ?_⟩) ?_ ?_
        rotate_left
        · intro w'
          go_simp
          with_reducible rfl
        rotate_left
        · simp only [Act.put, List.setIfInBounds_toArray, List.set_cons_zero, List.set_cons_succ, i64_w, i32_w]
          rfl
        refine pure_ (i := 4) (N := some 39) (v := ?_) (a' := ?_) #[true, true, true, true, true, false, false, false, false, false, false, false, false, false, false, false] rfl rfl (by kernel_rfl) (fun _ _ _ h => h) (Or.inl ⟨by rfl, ?_⟩) ?_ ?_
        rotate_left
        · intro w'
          go_simp
          with_reducible rfl
        rotate_left
        · simp only [Act.put, List.setIfInBounds_toArray, List.set_cons_zero, List.set_cons_succ, i64_w, i32_w]
          rfl
        refine take_ (i := 5) (N := some 40) (v := ?_) (a' := ?_) #[true, true, true, true, true, true, false, false, false, false, false, false, false, false, false, false] rfl rfl (by kernel_rfl) (fun _ _ _ h => h) (Or.inl ⟨by rfl, ?_⟩) hHeld ?_ ?_
        rotate_left
        · intro w' s0
          obtain ⟨s0, s1⟩ := s0
          go_simp
          with_reducible rfl
        rotate_left
        · simp only [Act.put, List.setIfInBounds_toArray, List.set_cons_zero, List.set_cons_succ, i64_w, i32_w]
          rfl
        refine pure_ (i := 6) (N := some 41) (v := ?_) (a' := ?_) #[true, true, true, true, true, true, true, false, false, false, false, false, false, false, false, false] rfl rfl (by kernel_rfl) (fun _ _ _ h => h) (Or.inl ⟨by rfl, ?_⟩) ?_ ?_
        rotate_left
        · intro w'
          go_simp
          with_reducible rfl
        rotate_left
        · simp only [Act.put, List.setIfInBounds_toArray, List.set_cons_zero, List.set_cons_succ, i64_w, i32_w]
          rfl
        refine take_ (i := 7) (N := some 42) (v := ?_) (a' := ?_) #[true, true, true, true, true, true, true, true, false, false, false, false, false, false, false, false] rfl rfl (by kernel_rfl) (fun _ _ _ h => h) (Or.inl ⟨by rfl, ?_⟩) hHeld ?_ ?_
        rotate_left
        · intro w' s0
          obtain ⟨s0, s1⟩ := s0
          go_simp
          with_reducible rfl
        rotate_left
        · simp only [Act.put, List.setIfInBounds_toArray, List.set_cons_zero, List.set_cons_succ, i64_w, i32_w]
          rfl
        refine pure_ (i := 8) (N := some 43) (v := ?_) (a' := ?_) #[true, true, true, true, true, true, true, true, true, false, false, false, false, false, false, false] rfl rfl (by kernel_rfl) (fun _ _ _ h => h) (Or.inl ⟨by rfl, ?_⟩) ?_ ?_
        rotate_left
        · intro w'
          go_simp
          with_reducible rfl
        rotate_left
        · simp only [Act.put, List.setIfInBounds_toArray, List.set_cons_zero, List.set_cons_succ, i64_w, i32_w]
          rfl
        refine pure_ (i := 9) (N := some 44) (v := ?_) (a' := ?_) #[true, true, true, true, true, true, true, true, true, true, false, false, false, false, false, false] rfl rfl (by kernel_rfl) (fun _ _ _ h => h) (Or.inl ⟨by rfl, ?_⟩) ?_ ?_
        rotate_left
        · intro w'
          go_simp
          with_reducible rfl
        rotate_left
        · simp only [Act.put, List.setIfInBounds_toArray, List.set_cons_zero, List.set_cons_succ, i64_w, i32_w]
          rfl
        refine pure_ (i := 10) (N := some 45) (v := ?_) (a' := ?_) #[true, true, true, true, true, true, true, true, true, true, true, false, false, false, false, false] rfl rfl (by kernel_rfl) (fun _ _ _ h => h) (Or.inl ⟨by rfl, ?_⟩) ?_ ?_
        rotate_left
        · intro w'
          go_simp
          with_reducible rfl
        rotate_left
        · simp only [Act.put, List.setIfInBounds_toArray, List.set_cons_zero, List.set_cons_succ, i64_w, i32_w]
          rfl
        refine pure_ (i := 11) (N := some 46) (v := ?_) (a' := ?_) #[true, true, true, true, true, true, true, true, true, true, true, true, false, false, false, false] rfl rfl (by kernel_rfl) (fun _ _ _ h => h) (Or.inl ⟨by rfl, ?_⟩) ?_ ?_
        rotate_left
        · intro w'
          go_simp
          with_reducible rfl
        rotate_left
        · simp only [Act.put, List.setIfInBounds_toArray, List.set_cons_zero, List.set_cons_succ, i64_w, i32_w]
          rfl
        refine pure_ (i := 12) (N := some 47) (v := ?_) (a' := ?_) #[true, true, true, true, true, true, true, true, true, true, true, true, true, false, false, false] rfl rfl (by kernel_rfl) (fun _ _ _ h => h) (Or.inl ⟨by rfl, ?_⟩) ?_ ?_
        rotate_left
        · intro w'
          go_simp
          with_reducible rfl
        rotate_left
        · simp only [Act.put, List.setIfInBounds_toArray, List.set_cons_zero, List.set_cons_succ, i64_w, i32_w]
          rfl
        refine pure_ (i := 13) (N := some 48) (v := ?_) (a' := ?_) #[true, true, true, true, true, true, true, true, true, true, true, true, true, true, false, false] rfl rfl (by kernel_rfl) (fun _ _ _ h => h) (Or.inl ⟨by rfl, ?_⟩) ?_ ?_
        rotate_left
        · intro w'
          go_simp
          with_reducible rfl
        rotate_left
        · simp only [Act.put, List.setIfInBounds_toArray, List.set_cons_zero, List.set_cons_succ, i64_w, i32_w]
          rfl
        refine pure_ (i := 14) (N := some 49) (v := ?_) (a' := ?_) #[true, true, true, true, true, true, true, true, true, true, true, true, true, true, true, false] rfl rfl (by kernel_rfl) (fun _ _ _ h => h) (Or.inl ⟨by rfl, ?_⟩) ?_ ?_
        rotate_left
        · intro w'
          go_simp
          with_reducible rfl
        rotate_left
        · simp only [Act.put, List.setIfInBounds_toArray, List.set_cons_zero, List.set_cons_succ, i64_w, i32_w]
          rfl
        refine last_ (i := 15) (N := none) #[true, true, true, true, true, true, true, true, true, true, true, true, true, true, true, true] rfl rfl (by kernel_rfl) (by decide) (fun K hK => ?_)
        have hcf := HX.out.at_ q1 HC1.out.1 HC1.out.2.1 cur HC1.out.2.2
        have hcl := hcf.1
        have hfr := hcf.2
        clear hcf
        refine skip_ (w1 := w2.setCell ⟨g, q1.toNat, none⟩ (.int .u8 (cur + x.f0 * 4 ^ (i % 4)))) (by rfl) rfl (by first | (go_simp; done) | (go_simp; rfl)) ?_
        have HO := Aside0.mk (Kd.R_putn HX.out.own q1 (cur + x.f0 * 4 ^ (i % 4)))
        have HB := Aside0.mk (HX.out.bel.setCell (p := ⟨g, q1.toNat, none⟩) HG.out (.int .u8 (cur + x.f0 * 4 ^ (i % 4))))
        refine hK.out _ _ ?_
        clear hK K hcl hfr HX
        refine done_ (by kernel_rfl) ?_
        go_wp2
        cases gk with
        | zero => exact absurd HI.out.2.2 (by have := HI.out; have := HZ.out; omega)
        | succ k =>
        go_roundg k
        case measure => omega
        case rel => exact ⟨i + 1, _, rfl, by have := HI.out; have hz := HZ.out; have := HL.out; refine ⟨(w64 (by omega) (by omega)).trans (by omega), by omega, by omega⟩, ⟨by rw [HD.out, show 1 + i / 4 = q1.toNat by have := HQ1.out; omega]; exact HO.out⟩, HB⟩
      · have d0 : decide (z < (l.length : Int)) = false := decide_eq_false hz
        have hz := Aside0.mk hz
        rename ¬ z < (l.length : Int) => hz'
        clear hz' hi
        have HO : Aside0 (Kd.R (Kd.int .u8) 5 wr w.heap.size (fun _ => True) (.slice (some ⟨g, 0, none⟩) N1 c5) (hdl l n l.length ++ (l.take 0).flatMap cb)) := ⟨by
          have h1 := HI.out
          have h2 := hz.out
          have h3 := HO.out
          rw [show i = l.length by omega] at h3
          simpa using h3⟩
        have HH : Aside0 ((hdl l n l.length).length ≤ 5) := ⟨by unfold hdl; rw [List.length_cons, List.length_map, List.length_range]; have := HN4.out; omega⟩
        obtain ⟨H0, hH0⟩ : ∃ H0, hdl l n l.length = H0 := ⟨_, rfl⟩
        rw [hH0] at HO HH
        have HH0 := Aside0.mk hH0
        clear hH0
        go_wp2
        clear HI hz d0
        go_loopg [6, 53] 17 (fun gk v6 v53 wr => ∃ (i : Nat) (z : Int), v53 = .int .i64 z ∧ Aside0 (z = (i : Int) ∧ i ≤ l.length ∧ l.length < i + gk) ∧ Aside0 (Kd.R (Kd.int .u8) 5 wr w.heap.size (fun _ => True) v6 (H0 ++ (l.take i).flatMap cb)) ∧ Aside0 (Below w.heap.size w wr))
        case atStart => exact ⟨0, _, rfl, by have := HL.out; refine ⟨rfl, by omega, by omega⟩, HO, HB⟩
        case round =>
          clear HO HB
          obtain ⟨i, z, rfl, HI, HO, HB⟩ := hrel
          have hi := HI.out
          by_cases hz : z < (l.length : Int)
          · have d0 : decide (z < (l.length : Int)) = true := decide_eq_true hz
            have p0 : (0 ≤ z) = True := eq_true (by omega)
            have HZ := Aside0.mk hz
            have p1 : (z < (l.length : Int)) = True := eq_true hz
            have HS := Aside0.mk (rd_mem l i (by omega))
            rw [← HI.out.1] at HS
            obtain ⟨ad, e0, x0, x1, x2⟩ := at_T33 hr.out z (by omega) hz
            cases e0
            replace x0 := (HB.out.cell (World.block_lt_of_cell? w _ x0)).trans x0
            replace x1 := (HB.out.cell (World.block_lt_of_cell? w _ x1)).trans x1
            replace x2 := (HB.out.cell (World.block_lt_of_cell? w _ x2)).trans x2
            have hZL := flat_len cb (l.take i) (fun x hx => cb_len (HA.out x (List.mem_of_mem_take hx)))
            have HZL : Aside0 ((H0 ++ (l.take i).flatMap cb).length ≤ 1000000) := ⟨by have := HL.out; have := HH.out; have := List.length_take_le i l; rw [List.length_append]; omega⟩
            clear hz hi hZL
            generalize rd_T33 l z = x at x0 x1 x2 HS
            have hk1 : chk1 x = 0 := HA.out x HS.out.1
            have hk4 : Aside0 (0 ≤ x.f0 ∧ x.f0 ≤ 3) := ⟨kind_of hk1⟩
            obtain ⟨fl, fc, fb, hcod, hlay, hcol⟩ := lay_of x hk1 (hn.out x HS.out.1)
            have hcod := Aside0.mk hcod
            have HX := Aside0.mk (Bx.mk (b := wr.heap.size) (x := x) (Kd.R_below HO.out (below_alloc (Below.refl _ _) (.cells #[.int .i64 x.f0, .int .i64 x.f1, .string x.f2] 33))) (heap_alloc_new wr (.cells #[.int .i64 x.f0, .int .i64 x.f1, .string x.f2] 33)) (below_alloc HB.out _) (Nat.le_trans (below_alloc HB.out (.cells #[.int .i64 x.f0, .int .i64 x.f1, .string x.f2] 33)).size (Nat.le_refl _)))
            have hfld : ∀ W : World, (Instr.field 56 (.agg #[fv fl, fv fc, fv fb]) 1).run Tryd.prog W = .ok (fv fc) W := fun W => by kernel_rfl
            clear hk1 hlay HO HB
            go_wp2_with fail
            generalize hbx : wr.heap.size = b at HX ⊢
            refine start_ (n := 8) (S := fun w' => w'.cell? ⟨b, 0, none⟩ = some (.int .i64 x.f0) ∧ w'.cell? ⟨b, 1, none⟩ = some (.int .i64 x.f1) ∧ w'.cell? ⟨b, 2, none⟩ = some (.string x.f2)) (ds := [6]) #[false, false, false, false, false, false, false, false] (by kernel_rfl) rfl rfl (HX.out.drew.c) (fun hHeld => ?_)
            have hdr := Aside0.mk HX.out.drew
            generalize World.drew _ = w2 at hHeld hdr ⊢
            clear HX
            have HX := hdr
            clear hdr
            refine pure_ (i := 0) (N := some 57) (v := ?_) (a' := ?_) #[true, false, false, false, false, false, false, false] rfl rfl (by kernel_rfl) (fun _ _ _ h => h) (Or.inl ⟨by rfl, ?_⟩) ?_ ?_
            rotate_left
            · intro w'
              go_simp
              with_reducible rfl
            rotate_left
            · simp only [Act.put, List.setIfInBounds_toArray, List.set_cons_zero, List.set_cons_succ, i64_w, i32_w]
              rfl
            refine take_ (i := 1) (N := some 58) (v := ?_) (a' := ?_) #[true, true, false, false, false, false, false, false] rfl rfl (by kernel_rfl) (fun _ _ _ h => h) (Or.inl ⟨by rfl, ?_⟩) hHeld ?_ ?_
            rotate_left
            · intro w' s0
              obtain ⟨s0, s1, s2⟩ := s0
              go_simp
              with_reducible rfl
            rotate_left
            · simp only [Act.put, List.setIfInBounds_toArray, List.set_cons_zero, List.set_cons_succ, i64_w, i32_w]
              rfl
            refine pure_ (i := 4) (N := some 61) (v := ?_) (a' := ?_) #[true, true, false, false, true, false, false, false] rfl rfl (by kernel_rfl) (fun _ _ _ h => h) (Or.inl ⟨by rfl, ?_⟩) ?_ ?_
            rotate_left
            · intro w'
              go_simp
              with_reducible rfl
            rotate_left
            · simp only [Act.put, List.setIfInBounds_toArray, List.set_cons_zero, List.set_cons_succ, i64_w, i32_w]
              rfl
            refine take_ (i := 5) (N := some 62) (v := ?_) (a' := ?_) #[true, true, false, false, true, true, false, false] rfl rfl (by kernel_rfl) (fun _ _ _ h => h) (Or.inl ⟨by rfl, ?_⟩) hHeld ?_ ?_
            rotate_left
            · intro w' s0
              obtain ⟨s0, s1, s2⟩ := s0
              go_simp
              with_reducible rfl
            rotate_left
            · simp only [Act.put, List.setIfInBounds_toArray, List.set_cons_zero, List.set_cons_succ, i64_w, i32_w]
              rfl
            refine one_ (i := 2) (N := some 59) #[true, true, true, false, true, true, false, false] rfl rfl (by kernel_rfl) (by decide) (fun K hK => ?_)
            refine goes_ Tryd.func27 (by kernel_rfl) rfl #[.int .i64 x.f0] (by rfl) rfl rfl (by (try simp only [List.map_toArray, List.map_cons, List.map_nil]); first | done | rfl) ?_
            refine (codecs_is _ hk4.out _).mono ?_
            rintro e w3 ⟨rfl, hbl⟩
            rw [hcod.out]
            refine ⟨_, rfl, ?_⟩
            have HX := Aside0.mk (HX.out.below hbl)
            clear hbl
            refine hK.out _ _ (HX.out.c) (fun hHeld => ?_)
            clear hK K
            refine norm_ (a' := ?_) ?_ ?_
            rotate_left
            · show Act.put _ (some 59) _ = _
              simp only [Act.put, List.setIfInBounds_toArray, List.set_cons_zero, List.set_cons_succ, i64_w, i32_w]
              rfl
            refine pure_ (i := 3) (N := some 60) (v := ?_) (a' := ?_) #[true, true, true, true, true, true, false, false] rfl rfl (by kernel_rfl) (fun _ _ _ h => h) (Or.inl ⟨by rfl, ?_⟩) ?_ ?_
            rotate_left
            · intro w'
              go_simp
              with_reducible rfl
            rotate_left
            · simp only [Act.put, List.setIfInBounds_toArray, List.set_cons_zero, List.set_cons_succ, i64_w, i32_w]
              rfl
            refine last_ (i := 6) (N := some 63) #[true, true, true, true, true, true, true, false] rfl rfl (by kernel_rfl) (by decide) (fun K hK => ?_)
            refine goesV_ (c := 60) hcol.ent #[_, valV x] (by rfl) rfl rfl (by rfl) (by (try simp only [List.map_toArray, List.map_cons, List.map_nil]); first | done | rfl) ?_
            refine (hcol.run w.heap.size _ (H0 ++ (l.take i).flatMap cb) _ (hT.out.below HX.out.bel) (blk1 hT.out) HX.out.size (by have := HZL.out; omega) HX.out.own).mono ?_
            rintro e w4 ⟨v4, rfl, ho4, hb4⟩
            refine ⟨_, rfl, ?_⟩
            have HO := Aside0.mk ho4
            have HB := Aside0.mk (HX.out.bel.trans hb4)
            clear ho4 hb4 HX
            refine hK.out _ _ ?_
            clear hK K
            refine norm_ (a' := ?_) ?_ ?_
            rotate_left
            · show Act.put _ (some 63) _ = _
              simp only [Act.put, List.setIfInBounds_toArray, List.set_cons_zero, List.set_cons_succ, i64_w, i32_w]
              rfl
            refine pure_ (i := 7) (N := some 6) (v := ?_) (a' := ?_) #[true, true, true, true, true, true, true, true] rfl rfl (by kernel_rfl) (fun _ _ _ h => h) (Or.inl ⟨by rfl, ?_⟩) ?_ ?_
            rotate_left
            · intro w'
              go_simp
              with_reducible rfl
            rotate_left
            · simp only [Act.put, List.setIfInBounds_toArray, List.set_cons_zero, List.set_cons_succ, i64_w, i32_w]
              rfl
            refine done_ (by kernel_rfl) ?_
            go_wp2
            cases gk with
            | zero => exact absurd HI.out.2.2 (by have := HI.out; have := HZ.out; omega)
            | succ k =>
            go_roundg k
            case measure => omega
            case rel => exact ⟨i + 1, _, rfl, by have := HI.out; have hz := HZ.out; have := HL.out; refine ⟨(w64 (by omega) (by omega)).trans (by omega), by omega, by omega⟩, ⟨by rw [HS.out.2, List.flatMap_append, List.flatMap_singleton, ← List.append_assoc]; exact HO.out⟩, HB⟩
          · have d0 : decide (z < (l.length : Int)) = false := decide_eq_false hz
            have hz := Aside0.mk hz
            rename ¬ z < (l.length : Int) => hz'
            clear hz' hi
            have hcv := own_string (P := Tryd.prog) Tryd.underlying52 Tryd.underlying5 Tryd.underlying9 (Kd.own_of_R HO.out)
            go_wp2
            go_ret2
            refine ⟨?_, HB.out⟩
            have h1 := HI.out
            have h2 := hz.out
            rw [show i = l.length by omega, List.take_length, HH0.out]
            rfl
  · have hkb : rowB l = ⟨#[]⟩ := if_neg hk0
    rw [hkb]
    have hb0 : (chk l == 0) = false := beq_eq_false_iff_ne.2 hk0
    have hb1 : (chk l != 0) = true := bne_iff_ne.2 hk0
    clear hk0 hkb
    go_enter Tryd.func12, Tryd.ntmps12
    go_wp2_with (go_at_call 26; refine (check_any A0 n0 l _ hT hr).mono ?_; rintro e w1 ⟨rfl, hb⟩; have HB := Aside0.mk hb; clear hb)
    go_ret2
    exact ⟨rfl, HB.out⟩
end Go.Proofs.YtbekgkikgcmmaaaDoor.HBitX

/- The program's Key and Row, in the shape that a print takes. -/
set_option linter.unusedVariables false
namespace Go.Proofs.YtbekgkikgcmmaaaDoor.HGx
open Go.RowKit Go.Proofs.YtbekgkikgcmmaaaDoor.PBit Go.Proofs.YtbekgkikgcmmaaaDoor.HBase Go.Proofs.YtbekgkikgcmmaaaDoorW.PrintWords Go.Proofs.YtbekgkikgcmmaaaDoorW.PrintLast Go.Proofs.YtbekgkikgcmmaaaDoorW.PrintMore Go.Proofs.YtbekgkikgcmmaaaDoor.HCore Go.Proofs.YtbekgkikgcmmaaaDoor.HBitE Go.Proofs.YtbekgkikgcmmaaaDoor.HBitX

def allr (l : List S33) : Bool := l.all fun x => decide (-9223372036854775808 ≤ x.f1) && decide (x.f1 ≤ 9223372036854775807)
theorem inr_of {l : List S33} (h : allr l = true) : inr l := fun x hx => by
  have := List.all_eq_true.1 h x hx
  rw [Bool.and_eq_true] at this
  exact ⟨of_decide_eq_true this.1, of_decide_eq_true this.2⟩
theorem all_of {l : List S33} (h : inr l) : allr l = true := List.all_eq_true.2 fun x hx => by
  rw [Bool.and_eq_true]
  exact ⟨decide_eq_true (h x hx).1, decide_eq_true (h x hx).2⟩
def bits_Key.f (k : Nat) (l0 : List (S33)) : Option (ByteArray × Int) := if allr l0 = true then some (keyB l0, chk l0) else none
theorem bits_Key.mono : ∀ a0 k, LeO (bits_Key.f k a0) (bits_Key.f (k + 1) a0) := fun _ _ => LeO.refl _
theorem bits_Key.calls (k : Nat) (A0 : Option Addr) (c0 : Nat) (l0 : List (S33)) (r1 : ByteArray) (r2 : Int) (w : World) (hr0 : Kd.C k33 w A0 l0.length l0) (hc0 : l0.length ≤ c0) (h : bits_Key.f k l0 = some (r1, r2)) (hT : Tab w) :
    Calls Tryd.prog 9 #[.slice A0 l0.length c0] w fun e w' => e = .returned (.tuple #[.string r1, .int .i64 r2]) ∧ Below w.heap.size w w' := by
  unfold bits_Key.f at h
  by_cases g : allr l0 = true
  · rw [if_pos g] at h
    cases h
    exact key_any A0 c0 l0 w ⟨hT⟩ ⟨hr0⟩ ⟨inr_of g⟩
  · rw [if_neg g] at h
    cases h
def bits_Row.f (k : Nat) (l0 : List (S33)) : Option (ByteArray × Int) := if allr l0 = true then some (rowB l0, chk l0) else none
theorem bits_Row.mono : ∀ a0 k, LeO (bits_Row.f k a0) (bits_Row.f (k + 1) a0) := fun _ _ => LeO.refl _
theorem bits_Row.calls (k : Nat) (A0 : Option Addr) (c0 : Nat) (l0 : List (S33)) (r1 : ByteArray) (r2 : Int) (w : World) (hr0 : Kd.C k33 w A0 l0.length l0) (hc0 : l0.length ≤ c0) (h : bits_Row.f k l0 = some (r1, r2)) (hT : Tab w) :
    Calls Tryd.prog 12 #[.slice A0 l0.length c0] w fun e w' => e = .returned (.tuple #[.string r1, .int .i64 r2]) ∧ Below w.heap.size w w' := by
  unfold bits_Row.f at h
  by_cases g : allr l0 = true
  · rw [if_pos g] at h
    cases h
    exact row_any A0 c0 l0 w ⟨hT⟩ ⟨hr0⟩ ⟨inr_of g⟩
  · rw [if_neg g] at h
    cases h
end Go.Proofs.YtbekgkikgcmmaaaDoor.HGx
