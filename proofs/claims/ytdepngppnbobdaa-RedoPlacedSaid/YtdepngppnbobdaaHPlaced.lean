/- RedoPlaced: three rounds of encoding one commit, into which writes are laid in between (r2's plain seat). -/
import Derived.Test.YtdepngppnbobdaaHWrites
set_option linter.unusedVariables false
set_option linter.unusedSimpArgs false
namespace Go.Proofs.Ytdepngppnbobdaa.HPlaced
open Go.RowKit Go.Proofs.Ytdepngppnbobdaa.PRed Go.Proofs.Ytdepngppnbobdaa.HRedL Go.Proofs.Ytdepngppnbobdaa.HEnc Go.Proofs.Ytdepngppnbobdaa.HBuild Go.Proofs.Ytdepngppnbobdaa.HWrites Go.Proofs.YtdepngppnbobdaaW.PrintWords Go.Proofs.YtdepngppnbobdaaW.PrintLast Go.Proofs.YtdepngppnbobdaaW.PrintMore Go.Proofs.Ytdepngppnbobdaa.HCore

/-- The commit that came in the block at w's end, the call's own commit in block b, its row holds xs. -/
structure Pl (w wr : World) (b : Nat) (st : Int) (A : Option Addr) (n c : Nat) (v : Value) (xs : List S36) : Prop where
  below : Below w.heap.size w wr
  box : wr.heap[w.heap.size]? = some (.cells #[.int .u64 st, .slice A n c] 25 (0, 0))
  mine : wr.heap[b]? = some (.cells #[.int .u64 st, v] 25 (0, 0))
  row : Kd.R k36 36 wr w.heap.size (fun _ => True) v xs
theorem Pl.grown {w wr w1 : World} {b : Nat} {st : Int} {A : Option Addr} {n c : Nat} {v : Value} {xs : List S36} (h : Pl w wr b st A n c v xs) (hb : Below wr.heap.size wr w1) : Pl w w1 b st A n c v xs :=
  ⟨below_then h.below h.below.size hb, (hb.block _ (blk_lt h.box)).trans h.box, (hb.block _ (blk_lt h.mine)).trans h.mine, Kd.R_below h.row hb⟩
theorem Pl.drew {w wr : World} {b : Nat} {st : Int} {A : Option Addr} {n c : Nat} {v : Value} {xs : List S36} (h : Pl w wr b st A n c v xs) : Pl w wr.drew b st A n c v xs := ⟨below_drew h.below, h.box, h.mine, Kd.R_drew h.row⟩
theorem Pl.c4 {w wr : World} {b : Nat} {st : Int} {A : Option Addr} {n c : Nat} {v : Value} {xs : List S36} (h : Pl w wr b st A n c v xs) :
    wr.cell? ⟨w.heap.size, 0, none⟩ = some (.int .u64 st) ∧ wr.cell? ⟨w.heap.size, 1, none⟩ = some (.slice A n c) ∧ wr.cell? ⟨b, 0, none⟩ = some (.int .u64 st) ∧ wr.cell? ⟨b, 1, none⟩ = some v :=
  ⟨(blk_cell h.box 0).trans rfl, (blk_cell h.box 1).trans rfl, (blk_cell h.mine 0).trans rfl, (blk_cell h.mine 1).trans rfl⟩
/-- A row of one's own that is not empty begins at a block's head. -/
theorem own_head {w : World} {base : Nat} {ok : Nat → Prop} {A : Option Addr} {n c : Nat} {xs : List S36} (h : Kd.R k36 36 w base ok (.slice A n c) xs) (hn : 0 < n) : ∃ g, A = some ⟨g, 0, none⟩ := by
  obtain ⟨hl, _, _⟩ := Kd.R_reads' h
  obtain ⟨_, inner, ho, _⟩ := h
  rcases ho.2 with ⟨hv, _⟩ | ⟨g, cap, cur, hv, _⟩
  · injection hv with _ h2 _; omega
  · injection hv with h1 _ _; exact ⟨g, h1⟩
/-- Element i of the call's own row is written whole. -/
theorem Pl.put {w wr : World} {b : Nat} {st : Int} {A : Option Addr} {n c g n1 c1 : Nat} {xs : List S36} (h : Pl w wr b st A n c (.slice (some ⟨g, 0, none⟩) n1 c1) xs) (i : Nat) (hi : i < n1) (x : S36) :
    Pl w (wr.setCells g (i * 3) [.int .i64 x.f0, .string x.f1, .string x.f2]) b st A n c (.slice (some ⟨g, 0, none⟩) n1 c1) (xs.set i x)
    ∧ ∀ (v : Value), v.cells.toList = [.int .i64 x.f0, .string x.f1, .string x.f2] → (Instr.storeAt 36 (.pointer (some ⟨g, i * 3, none⟩)) v).run Try.prog wr = .ok () (wr.setCells g (i * 3) [.int .i64 x.f0, .string x.f1, .string x.f2]) := by
  obtain ⟨hl, hnc, hC⟩ := Kd.R_reads' h.row
  obtain ⟨ad, cs, e1, e2, e3, e4⟩ := ReadsRow.get_ hC z36 (i : Int) (by omega) (by omega)
  obtain rfl := Option.some.inj e1
  have hs := Kd.R_seg (okp := fun _ => False) (x' := x) (seg := [.int .i64 x.f0, .string x.f1, .string x.f2]) (j := 0) h.row (i : Int) (by omega) (by omega) e2 (fun j u hu => by have := e4 j u hu; rwa [add_plain] at this) (show 0 + 3 ≤ 3 by omega) (by
    have e : cs.drop (0 + 3) = [] := List.drop_of_length_le (by rw [e2]; decide)
    show k36.M wr w.heap.size (fun _ => False) x (cs.take 0 ++ [.int .i64 x.f0, .string x.f1, .string x.f2] ++ cs.drop (0 + 3))
    rw [e]
    exact k36_mkM _ _ _ x) (fun _ hk => hk.elim)
  obtain ⟨hr, hg⟩ := hs
  have hz : ((i : Int).toNat * k36.sz + 0) = i * 3 := rfl
  rw [hz] at hr hg
  have hn : xs.set (i : Int).toNat x = xs.set i x := rfl
  rw [hn] at hr
  obtain ⟨_, inner, ho, hri⟩ := h.row
  obtain ⟨hin, ho2⟩ := ho
  rcases ho2 with ⟨hv, _⟩ | ⟨g', cap', cur, hv, hb, hh, hnc', hcm, hcs, ht⟩
  · cases hv
  injection hv with ha _ hc
  injection ha with ha
  injection ha with hgg
  subst hgg; subst hc
  have hne : ∀ k (cells : Array Value), wr.heap[k]? = some (Obj.cells cells 25 (0, 0)) → (wr.setCells g (i * 3) [.int .i64 x.f0, .string x.f1, .string x.f2]).heap[k]? = some (Obj.cells cells 25 (0, 0)) := fun k cells hk =>
    (hg.block k (blk_lt hk) (fun he => by injection he with he; subst he; rw [hh] at hk; have hk := Option.some.inj hk; simp at hk)).trans hk
  have hfit : i * 3 + 3 ≤ cur.size := by
    rw [hcs]
    show i * 3 + 3 ≤ c1 * 3
    omega
  refine ⟨⟨h.below.grown hg h.below.size (fun k hk => by injection hk with hk; omega), hne _ _ h.box, hne _ _ h.mine, hr⟩, fun v hv => ?_⟩
  exact run_store_run 36 v _ hh hv (by kernel_rfl) hfit (by intro q hq; simp at hq; rcases hq with rfl | rfl | rfl <;> rfl)

theorem store_run {P : Program} {o : Oper} {a : Act} {w w1 : World} {t : TypeId} {x y : Operand} {p v : Value} (ho : o.op = .store t x y) (hx : a.eval x = p) (hy : a.eval y = v) (h : (Instr.storeAt t p v).run P w = .ok () w1) : (execOp a.eval o).run P w = .ok .skip w1 := by
  unfold execOp
  simp only [ho, hx, hy, Sem.run_bind, Sem.run_pure, Result.andThen_ok, h]
set_option maxRecDepth 100000 in
set_option maxHeartbeats 4000000 in
theorem placed (st : Int) (A : Option Addr) (c : Nat) (ws : List S36) (B : Option Addr) (d : Nat) (os : List S36) (w : World) (hC : Kd.C k36 w A ws.length ws) (hc : ws.length ≤ c) (hn : ws.length < 3518437208883) (hD : Kd.C k36 w B os.length os) (hd : os.length ≤ d) (hm : os.length < 3518437208883) :
    Calls Try.prog 4 #[.agg #[.int .u64 st, .slice A ws.length c], .slice B os.length d] w fun e w' => e = .returned (.bool true) ∧ Below w.heap.size w w' := by
  have HO := Aside0.mk (own_is st ws (by omega) (ws.length + 1) (by omega))
  have HC := Aside0.mk hC
  have HD := Aside0.mk hD
  clear hC hD
  go_enter Try.func4, Try.ntmps4
  go_wp2_with fail
  refine (stratalaw11_own.calls _ st A c ws st ws _ (Kd.C_alloc HC.out _) hc HO.out).mono ?_
  rintro e w1 ⟨v1, rfl, hR1, hb1⟩
  have HB1 := below_then (below_alloc (Below.refl w.heap.size w) (.cells #[.int .u64 st, .slice A ws.length c] 25)) (by simp) hb1
  have HX1 := (hb1.block _ (blk_lt (heap_alloc_new _ _))).trans (heap_alloc_new w (.cells #[.int .u64 st, .slice A ws.length c] 25))
  have hR0 := Kd.R_lower (base' := w.heap.size) hR1 (by simp)
  obtain ⟨A1, c1, rfl, hl1, hC1⟩ := Kd.R_reads hR0
  have HP1 : Aside0 (Pl w (w1.alloc (.cells #[.int .u64 st, .slice A1 ws.length c1] 25)) w1.heap.size st A ws.length c (.slice A1 ws.length c1) ws) := ⟨⟨below_alloc HB1 _, (heap_alloc_old _ _ (blk_lt HX1)).trans HX1, heap_alloc_new _ _, Kd.R_alloc hR0 _⟩⟩
  have HA1 : Aside0 (0 < ws.length → ∃ g, A1 = some ⟨g, 0, none⟩) := ⟨own_head hR0⟩
  clear hb1 hR1 hR0 HB1 HX1 hC1 HO
  go_wp2_with fail
  generalize w1.heap.size = b at HP1 ⊢
  generalize w1.alloc _ = W1 at HP1 ⊢
  go_loopw [6] (fun v6 wr => ∃ (r : Nat) (xs : List S36), r ≤ 3 ∧ v6 = .int .i64 (r : Int) ∧ xs.length = ws.length ∧ Aside0 (Pl w wr b st A ws.length c (.slice A1 ws.length c1) xs)) (fun v6 _ => 3 - (intOf v6).toNat)
  case atStart => exact ⟨0, ws, by omega, rfl, rfl, HP1⟩
  case round =>
    clear HP1
    obtain ⟨r, xs, hr, rfl, hxl, HP⟩ := hrel
    by_cases hr3 : r < 3
    · have hd3 : decide ((r : Int) < 3) = true := decide_eq_true (by omega)
      have HE : Aside0 (redo_EncodeCommit.f st xs = some ((encF st xs).1, (encF st xs).2)) := ⟨by unfold redo_EncodeCommit.f; rw [if_pos (by omega)]⟩
      have HR : Aside0 (strataref11_EncodeCommit.f (3 * xs.length + 3) st xs = some ((encF st xs).1, (encF st xs).2)) := ⟨ref_enc st xs (by omega) _ (by omega)⟩
      generalize (encF st xs).1 = o1 at HE HR
      generalize (encF st xs).2 = o2 at HE HR
      obtain ⟨k0, k1, k2, k3⟩ := HP.out.c4
      have hcx := Aside0.mk (Kd.R_reads' HP.out.row)
      go_wp2_with fail
      have hcall := redo_EncodeCommit.calls st A1 c1 xs o1 o2 wr hcx.out.2.2 (by have := hcx.out.2.1; omega) HE.out
      rw [hxl] at hcall
      refine hcall.mono ?_
      rintro e w2 ⟨rfl, hb2⟩
      have HP2 := Aside0.mk (HP.out.grown hb2)
      clear hb2 k0 k1 k2 k3 hcall HP hcx
      obtain ⟨k0, k1, k2, k3⟩ := HP2.out.c4
      have hcx := Aside0.mk (Kd.R_reads' HP2.out.row)
      go_wp2_with fail
      have hcall := strataref11_EncodeCommit.calls (3 * xs.length + 3) st A1 c1 xs o1 o2 w2 hcx.out.2.2 (by have := hcx.out.2.1; omega) HR.out
      rw [hxl] at hcall
      refine hcall.mono ?_
      rintro e w3 ⟨rfl, hb3⟩
      have HP3 := Aside0.mk (HP2.out.grown hb3)
      clear hb3 k0 k1 k2 k3 hcall HP2 hcx
      go_wp2_with fail
      refine (stratalaw11_num.calls o2 o2 _ rfl).mono ?_
      rintro e w5 ⟨rfl, hd5⟩
      have HP5 := Aside0.mk (HP3.out.grown hd5.below)
      clear hd5 HP3
      go_wp2_with fail
      go_loopw [11] (fun v11 wr => ∃ (k : Nat) (xs : List S36), k ≤ ws.length ∧ v11 = .int .i64 (k : Int) ∧ xs.length = ws.length ∧ Aside0 (Pl w wr b st A ws.length c (.slice A1 ws.length c1) xs)) (fun v11 _ => ws.length - (intOf v11).toNat)
      case atStart => exact ⟨0, xs, by omega, rfl, hxl, HP5⟩
      case round =>
        clear HP5 HE HR hxl
        obtain ⟨k, xs, hk, rfl, hxl, HP⟩ := hrel
        obtain ⟨k0, k1, k2, k3⟩ := HP.out.c4
        by_cases hkl : k < ws.length
        · have hdk : decide ((k : Int) < (ws.length : Int)) = true := decide_eq_true (by omega)
          by_cases hko : k < os.length
          · have hdo : decide ((k : Int) < (os.length : Int)) = true := decide_eq_true (by omega)
            have hkL : (k : Int) < (ws.length : Int) := by omega
            have hkO : (k : Int) < (os.length : Int) := by omega
            have hk0 : (0 : Int) ≤ (k : Int) := by omega
            by_cases hr0 : r = 0
            · have hrb : ((r : Int) == 0) = true := by rw [hr0]; rfl
              obtain ⟨g, eg⟩ := HA1.out (by omega)
              subst eg
              obtain ⟨adO, eO, x0, x1, x2⟩ := at_T36 (Kd.C_below HD.out HP.out.below) (k : Int) (by omega) (by omega)
              subst eO
              simp only [Int.toNat_natCast] at x0 x1 x2
              go_wp2_with fail
              refine start_ (n := 9) (S := fun w' => w'.cell? ⟨b, 1, none⟩ = some (.slice (some ⟨g, 0, none⟩) ws.length c1) ∧ w'.cell? (adO.add (k * 3)) = some (.int .i64 (rd_T36 os (k : Int)).f0) ∧ w'.cell? ⟨(adO.add (k * 3)).block, (adO.add (k * 3)).off + 1, none⟩ = some (.string (rd_T36 os (k : Int)).f1) ∧ w'.cell? ⟨(adO.add (k * 3)).block, (adO.add (k * 3)).off + 2, none⟩ = some (.string (rd_T36 os (k : Int)).f2)) (ds := [8]) #[false, false, false, false, false, false, false, false, false] (by kernel_rfl) rfl rfl ?_ (fun hHeld => ?_)
              · exact ⟨k3, x0, x1, x2⟩
              have HP1 := Aside0.mk HP.out.drew
              generalize wr.drew = w7 at HP1 hHeld ⊢
              refine pure_ (i := 0) (N := some 52) (v := ?_) (a' := ?_) #[true, false, false, false, false, false, false, false, false] rfl rfl (by kernel_rfl) (fun _ _ _ h => h) (Or.inl ⟨by rfl, ?_⟩) ?_ ?_
              rotate_left
              · intro w'
                go_simp
                with_reducible rfl
              rotate_left
              · simp only [Act.put, List.setIfInBounds_toArray, List.set_cons_zero, List.set_cons_succ, i64_w, i32_w]
                rfl
              refine pure_ (i := 2) (N := some 54) (v := ?_) (a' := ?_) #[true, false, true, false, false, false, false, false, false] rfl rfl (by kernel_rfl) (fun _ _ _ h => h) (Or.inl ⟨by rfl, ?_⟩) ?_ ?_
              rotate_left
              · intro w'
                go_simp
                with_reducible rfl
              rotate_left
              · simp only [Act.put, List.setIfInBounds_toArray, List.set_cons_zero, List.set_cons_succ, i64_w, i32_w]
                rfl
              refine pure_ (i := 3) (N := some 55) (v := ?_) (a' := ?_) #[true, false, true, true, false, false, false, false, false] rfl rfl (by kernel_rfl) (fun _ _ _ h => h) (Or.inl ⟨by rfl, ?_⟩) ?_ ?_
              rotate_left
              · intro w'
                go_simp
                with_reducible rfl
              rotate_left
              · simp only [Act.put, List.setIfInBounds_toArray, List.set_cons_zero, List.set_cons_succ, i64_w, i32_w]
                rfl
              refine pure_ (i := 4) (N := some 56) (v := ?_) (a' := ?_) #[true, false, true, true, true, false, false, false, false] rfl rfl (by kernel_rfl) (fun _ _ _ h => h) (Or.inl ⟨by rfl, ?_⟩) ?_ ?_
              rotate_left
              · intro w'
                go_simp
                with_reducible rfl
              rotate_left
              · simp only [Act.put, List.setIfInBounds_toArray, List.set_cons_zero, List.set_cons_succ, i64_w, i32_w]
                rfl
              refine take_ (i := 1) (N := some 53) (v := ?_) (a' := ?_) #[true, true, true, true, true, false, false, false, false] rfl rfl (by kernel_rfl) (fun _ _ _ h => h) (Or.inl ⟨by rfl, ?_⟩) hHeld ?_ ?_
              rotate_left
              · intro w' s0
                obtain ⟨s0, s1, s2, s3⟩ := s0
                go_simp
                with_reducible rfl
              rotate_left
              · simp only [Act.put, List.setIfInBounds_toArray, List.set_cons_zero, List.set_cons_succ, i64_w, i32_w]
                rfl
              refine pure_ (i := 5) (N := some 57) (v := ?_) (a' := ?_) #[true, true, true, true, true, true, false, false, false] rfl rfl (by kernel_rfl) (fun _ _ _ h => h) (Or.inl ⟨by rfl, ?_⟩) ?_ ?_
              rotate_left
              · intro w'
                go_simp
                with_reducible rfl
              rotate_left
              · simp only [Act.put, List.setIfInBounds_toArray, List.set_cons_zero, List.set_cons_succ, i64_w, i32_w]
                rfl
              refine take_ (i := 6) (N := some 58) (v := ?_) (a' := ?_) #[true, true, true, true, true, true, true, false, false] rfl rfl (by kernel_rfl) (fun _ _ _ h => h) (Or.inl ⟨by rfl, ?_⟩) hHeld ?_ ?_
              rotate_left
              · intro w' s0
                obtain ⟨s0, s1, s2, s3⟩ := s0
                go_simp
                with_reducible rfl
              rotate_left
              · simp only [Act.put, List.setIfInBounds_toArray, List.set_cons_zero, List.set_cons_succ, i64_w, i32_w]
                rfl
              refine pure_ (i := 7) (N := some 59) (v := ?_) (a' := ?_) #[true, true, true, true, true, true, true, true, false] rfl rfl (by kernel_rfl) (fun _ _ _ h => h) (Or.inl ⟨by rfl, ?_⟩) ?_ ?_
              rotate_left
              · intro w'
                go_simp
                with_reducible rfl
              rotate_left
              · simp only [Act.put, List.setIfInBounds_toArray, List.set_cons_zero, List.set_cons_succ, i64_w, i32_w]
                rfl
              refine last_ (i := 8) (N := none) #[true, true, true, true, true, true, true, true, true] rfl rfl (by kernel_rfl) (by decide) (fun K hK => ?_)
              obtain ⟨hP2, hst⟩ := HP1.out.put k hkl (rd_T36 os (k : Int))
              have HP2 := Aside0.mk hP2
              refine skip_ (by rfl) rfl (store_run rfl (by rfl) (by rfl) (hst _ (by rfl))) ?_
              refine hK.out _ _ ?_
              clear hK K hP2 hst
              refine done_ (by kernel_rfl) ?_
              try go_wp2
              go_roundw
              case rel => exact ⟨k + 1, xs.set k (rd_T36 os (k : Int)), by omega, by go_num, by rw [List.length_set]; exact hxl, HP2⟩
              case measure => simp [intOf]; omega
            · have hrb : ((r : Int) == 0) = false := beq_eq_false_iff_ne.2 (by omega)
              obtain ⟨g, eg⟩ := HA1.out (by omega)
              subst eg
              obtain ⟨adO, eO, x0, x1, x2⟩ := at_T36 (Kd.C_below HC.out HP.out.below) (k : Int) (by omega) (by omega)
              subst eO
              simp only [Int.toNat_natCast] at x0 x1 x2
              go_wp2_with fail
              refine start_ (n := 10) (S := fun w' => w'.cell? ⟨b, 1, none⟩ = some (.slice (some ⟨g, 0, none⟩) ws.length c1) ∧ w'.cell? (adO.add (k * 3)) = some (.int .i64 (rd_T36 ws (k : Int)).f0) ∧ w'.cell? ⟨(adO.add (k * 3)).block, (adO.add (k * 3)).off + 1, none⟩ = some (.string (rd_T36 ws (k : Int)).f1) ∧ w'.cell? ⟨(adO.add (k * 3)).block, (adO.add (k * 3)).off + 2, none⟩ = some (.string (rd_T36 ws (k : Int)).f2) ∧ w'.cell? ⟨w.heap.size, 1, none⟩ = some (.slice (some adO) ws.length c)) (ds := [9]) #[false, false, false, false, false, false, false, false, false, false] (by kernel_rfl) rfl rfl ?_ (fun hHeld => ?_)
              · exact ⟨k3, x0, x1, x2, k1⟩
              have HP1 := Aside0.mk HP.out.drew
              generalize wr.drew = w7 at HP1 hHeld ⊢
              refine pure_ (i := 0) (N := some 60) (v := ?_) (a' := ?_) #[true, false, false, false, false, false, false, false, false, false] rfl rfl (by kernel_rfl) (fun _ _ _ h => h) (Or.inl ⟨by rfl, ?_⟩) ?_ ?_
              rotate_left
              · intro w'
                go_simp
                with_reducible rfl
              rotate_left
              · simp only [Act.put, List.setIfInBounds_toArray, List.set_cons_zero, List.set_cons_succ, i64_w, i32_w]
                rfl
              refine pure_ (i := 2) (N := some 62) (v := ?_) (a' := ?_) #[true, false, true, false, false, false, false, false, false, false] rfl rfl (by kernel_rfl) (fun _ _ _ h => h) (Or.inl ⟨by rfl, ?_⟩) ?_ ?_
              rotate_left
              · intro w'
                go_simp
                with_reducible rfl
              rotate_left
              · simp only [Act.put, List.setIfInBounds_toArray, List.set_cons_zero, List.set_cons_succ, i64_w, i32_w]
                rfl
              refine pure_ (i := 3) (N := some 63) (v := ?_) (a' := ?_) #[true, false, true, true, false, false, false, false, false, false] rfl rfl (by kernel_rfl) (fun _ _ _ h => h) (Or.inl ⟨by rfl, ?_⟩) ?_ ?_
              rotate_left
              · intro w'
                go_simp
                with_reducible rfl
              rotate_left
              · simp only [Act.put, List.setIfInBounds_toArray, List.set_cons_zero, List.set_cons_succ, i64_w, i32_w]
                rfl
              refine pure_ (i := 5) (N := some 65) (v := ?_) (a' := ?_) #[true, false, true, true, false, true, false, false, false, false] rfl rfl (by kernel_rfl) (fun _ _ _ h => h) (Or.inl ⟨by rfl, ?_⟩) ?_ ?_
              rotate_left
              · intro w'
                go_simp
                with_reducible rfl
              rotate_left
              · simp only [Act.put, List.setIfInBounds_toArray, List.set_cons_zero, List.set_cons_succ, i64_w, i32_w]
                rfl
              refine take_ (i := 1) (N := some 61) (v := ?_) (a' := ?_) #[true, true, true, true, false, true, false, false, false, false] rfl rfl (by kernel_rfl) (fun _ _ _ h => h) (Or.inl ⟨by rfl, ?_⟩) hHeld ?_ ?_
              rotate_left
              · intro w' s0
                obtain ⟨s0, s1, s2, s3, s4⟩ := s0
                go_simp
                with_reducible rfl
              rotate_left
              · simp only [Act.put, List.setIfInBounds_toArray, List.set_cons_zero, List.set_cons_succ, i64_w, i32_w]
                rfl
              refine take_ (i := 4) (N := some 64) (v := ?_) (a' := ?_) #[true, true, true, true, true, true, false, false, false, false] rfl rfl (by kernel_rfl) (fun _ _ _ h => h) (Or.inl ⟨by rfl, ?_⟩) hHeld ?_ ?_
              rotate_left
              · intro w' s0
                obtain ⟨s0, s1, s2, s3, s4⟩ := s0
                go_simp
                with_reducible rfl
              rotate_left
              · simp only [Act.put, List.setIfInBounds_toArray, List.set_cons_zero, List.set_cons_succ, i64_w, i32_w]
                rfl
              refine pure_ (i := 6) (N := some 66) (v := ?_) (a' := ?_) #[true, true, true, true, true, true, true, false, false, false] rfl rfl (by kernel_rfl) (fun _ _ _ h => h) (Or.inl ⟨by rfl, ?_⟩) ?_ ?_
              rotate_left
              · intro w'
                go_simp
                with_reducible rfl
              rotate_left
              · simp only [Act.put, List.setIfInBounds_toArray, List.set_cons_zero, List.set_cons_succ, i64_w, i32_w]
                rfl
              refine take_ (i := 7) (N := some 67) (v := ?_) (a' := ?_) #[true, true, true, true, true, true, true, true, false, false] rfl rfl (by kernel_rfl) (fun _ _ _ h => h) (Or.inl ⟨by rfl, ?_⟩) hHeld ?_ ?_
              rotate_left
              · intro w' s0
                obtain ⟨s0, s1, s2, s3, s4⟩ := s0
                go_simp
                with_reducible rfl
              rotate_left
              · simp only [Act.put, List.setIfInBounds_toArray, List.set_cons_zero, List.set_cons_succ, i64_w, i32_w]
                rfl
              refine pure_ (i := 8) (N := some 68) (v := ?_) (a' := ?_) #[true, true, true, true, true, true, true, true, true, false] rfl rfl (by kernel_rfl) (fun _ _ _ h => h) (Or.inl ⟨by rfl, ?_⟩) ?_ ?_
              rotate_left
              · intro w'
                go_simp
                with_reducible rfl
              rotate_left
              · simp only [Act.put, List.setIfInBounds_toArray, List.set_cons_zero, List.set_cons_succ, i64_w, i32_w]
                rfl
              refine last_ (i := 9) (N := none) #[true, true, true, true, true, true, true, true, true, true] rfl rfl (by kernel_rfl) (by decide) (fun K hK => ?_)
              obtain ⟨hP2, hst⟩ := HP1.out.put k hkl (rd_T36 ws (k : Int))
              have HP2 := Aside0.mk hP2
              refine skip_ (by rfl) rfl (store_run rfl (by rfl) (by rfl) (hst _ (by rfl))) ?_
              refine hK.out _ _ ?_
              clear hK K hP2 hst
              refine done_ (by kernel_rfl) ?_
              try go_wp2
              go_roundw
              case rel => exact ⟨k + 1, xs.set k (rd_T36 ws (k : Int)), by omega, by go_num, by rw [List.length_set]; exact hxl, HP2⟩
              case measure => simp [intOf]; omega
          · have hdo : decide ((k : Int) < (os.length : Int)) = false := decide_eq_false (by omega)
            go_wp2_with fail
            exact ⟨⟨r + 1, xs, by omega, by go_num, hxl, HP⟩, by simp [intOf]; omega⟩
        · have hdk : decide ((k : Int) < (ws.length : Int)) = false := decide_eq_false (by omega)
          go_wp2_with fail
          exact ⟨⟨r + 1, xs, by omega, by go_num, hxl, HP⟩, by simp [intOf]; omega⟩
    · have hd3 : decide ((r : Int) < 3) = false := decide_eq_false (by omega)
      go_wp2_with fail
      go_ret
      exact ⟨rfl, HP.out.below⟩
theorem walk (x : HKinds.S25) (cs : Array Value) (B : Option Addr) (d : Nat) (os : List S36) (w : World) (hK : HKinds.k25.K w x cs.toList) (q : x.f1.length * 40 ≤ 140737488351232) (hd : os.length ≤ d) (hD : Kd.C k36 w B os.length os) (q1 : os.length * 40 ≤ 140737488351232) :
    Calls Try.prog 4 #[.agg cs, .slice B os.length d] w fun e w' => e = .returned (.bool true) ∧ Below w.heap.size w w' := by
  obtain ⟨A, c, hcs, hl, hC⟩ := HKinds.k25_open hK
  obtain rfl : cs = #[.int .u64 x.f0, .slice A x.f1.length c] := by cases cs; simp_all
  exact placed x.f0 A c x.f1 B d os w hC hl (by omega) hD hd (by omega)
end Go.Proofs.Ytdepngppnbobdaa.HPlaced
