/- RedoUnmade: a zero device and a zero log: the law's walk. -/
import Derived.Test.YtjggkopmhhhiiaaGreatDoorHUnm
import Derived.Test.YtjggkopmhhhiiaaGreatDoorPSmx1
import Derived.Deep.RegionHeld3
set_option linter.unusedVariables false
set_option linter.unusedSimpArgs false
namespace Go.Proofs.YtjggkopmhhhiiaaGreatDoor.HKinds
open Go.Proofs.YtjggkopmhhhiiaaGreatDoorW.PrintWords
/-- A write. -/
structure S50 where
  f0 : Int
  f1 : ByteArray
  f2 : ByteArray
def k50 : Kd S50 := Kd.iso (Kd.pair (Kd.int .i64) (Kd.pair Kd.string Kd.string)) (fun x : S50 => (x.f0, x.f1, x.f2))
/-- A commit. -/
structure S53 where
  f0 : Int
  f1 : List S50
def k53 : Kd S53 := Kd.iso (Kd.pair (Kd.int .u64) (Kd.slice 50 k50)) (fun x : S53 => (x.f0, x.f1))
/-- What a law is handed. -/
structure S26 where
  f0 : Int
  f1 : ByteArray
  f2 : ByteArray
  f3 : Int
  f4 : List Int
  f5 : Int
  f6 : Int
  f7 : List S53
def k26 : Kd S26 := Kd.iso (Kd.pair (Kd.int .i64) (Kd.pair Kd.string (Kd.pair Kd.string (Kd.pair (Kd.int .i64) (Kd.pair (Kd.slice 3 (Kd.int .i64)) (Kd.pair (Kd.int .u64) (Kd.pair (Kd.int .i64) (Kd.slice 53 k53)))))))) (fun x : S26 => (x.f0, x.f1, x.f2, x.f3, x.f4, x.f5, x.f6, x.f7))
theorem k26_open {w : World} {x : S26} {cs : List Value} (h : k26.K w x cs) : ∃ A c B n d, cs = [.int .i64 x.f0, .string x.f1, .string x.f2, .int .i64 x.f3, .slice A x.f4.length c, .int .u64 x.f5, .int .i64 x.f6, .slice B n d] ∧ x.f4.length ≤ c ∧ Kd.C (Kd.int .i64) w A x.f4.length x.f4 := by
  obtain ⟨_, _, rfl, rfl, _, _, rfl, rfl, _, _, rfl, rfl, _, _, rfl, rfl, _, _, rfl, ⟨A, c, rfl, hl, hC⟩, _, _, rfl, rfl, _, _, rfl, rfl, ⟨B, d, rfl, hl2, hD⟩⟩ := h
  exact ⟨A, c, B, _, d, rfl, hl, hC⟩
end Go.Proofs.YtjggkopmhhhiiaaGreatDoor.HKinds
namespace Go.Proofs.YtjggkopmhhhiiaaGreatDoor.HUnmade
open Go.RowKit Go.Proofs.YtjggkopmhhhiiaaGreatDoor.HKinds Go.Proofs.YtjggkopmhhhiiaaGreatDoor.HUnm Go.Proofs.YtjggkopmhhhiiaaGreatDoor.PSm Go.Proofs.YtjggkopmhhhiiaaGreatDoorW.PrintWords Go.Proofs.YtjggkopmhhhiiaaGreatDoorW.PrintLast Go.Proofs.YtjggkopmhhhiiaaGreatDoorW.PrintMore Go.Proofs.YtjggkopmhhhiiaaGreatDoor.HCore

theorem rd_at {x : List Int} {i : Nat} (h : i < x.length) : rd x (i : Int) = x[i] := by simp [rd, List.getD_eq_getElem?_getD, List.getElem?_eq_getElem h]
theorem copied_loop (l : List Int) (hl : l.length < 17592186044416) : ∀ d i : Nat, l.length = i + d → stratalaw11_copied.l0 (d + 1) l (l.take i) (i : Int) = some l
  | 0, i, h => by
    rw [stratalaw11_copied.l0, if_neg (by omega), List.take_of_length_le (by omega)]
  | d + 1, i, h => by
    have hi : i < l.length := by omega
    have e1 : wrap64 ((i : Int) + 1) = ((i + 1 : Nat) : Int) := by rw [w64 (by omega) (by omega)]; omega
    have e2 : l.take i ++ [rd l (i : Int)] = l.take (i + 1) := by
      rw [List.take_succ_eq_append_getElem hi, rd_at hi]
    rw [stratalaw11_copied.l0, if_pos (by omega), if_pos (by omega), if_pos (by rw [List.length_take]; omega), e1, e2]
    exact copied_loop l hl d (i + 1) (by omega)
theorem copied_is (l : List Int) (hl : l.length < 17592186044416) : stratalaw11_copied.f (l.length + 1) l = some l := copied_loop l hl l.length 0 (by omega)

/-- What stands while the law asks. -/
structure St (w : World) (g : Nat) (pd pl : Option Addr) (x : S26) (A : Option Addr) (c : Nat) (W : World) : Prop where
  bel : Below w.heap.size w W
  c1 : W.cell? ⟨g, 1, none⟩ = some (.string x.f1)
  c2 : W.cell? ⟨g, 2, none⟩ = some (.string x.f2)
  c3 : W.cell? ⟨g, 3, none⟩ = some (.int .i64 x.f3)
  c4 : W.cell? ⟨g, 4, none⟩ = some (.slice A x.f4.length c)
  c5 : W.cell? ⟨g, 5, none⟩ = some (.int .u64 x.f5)
  d : Un W pd
  l : Ul W pl
  k : Kd.C (Kd.int .i64) W A x.f4.length x.f4
theorem St.below {w W W' : World} {g c : Nat} {pd pl A : Option Addr} {x : S26} (h : St w g pd pl x A c W) (hb : Below W.heap.size W W') : St w g pd pl x A c W' :=
  ⟨below_step h.bel hb, pw_cell_below hb h.c1, pw_cell_below hb h.c2, pw_cell_below hb h.c3, pw_cell_below hb h.c4, pw_cell_below hb h.c5, h.d.below hb, h.l.below hb, Kd.C_below h.k hb⟩
theorem St.drew {w W : World} {g c : Nat} {pd pl A : Option Addr} {x : S26} (h : St w g pd pl x A c W) : St w g pd pl x A c W.drew := h.below (below_drew (Below.refl _ _))
/-- The cells that are read beside calls. -/
abbrev Cells (g : Nat) (x : S26) (A : Option Addr) (c : Nat) (W : World) : Prop :=
  W.cell? ⟨g, 1, none⟩ = some (.string x.f1) ∧ W.cell? ⟨g, 2, none⟩ = some (.string x.f2) ∧ W.cell? ⟨g, 3, none⟩ = some (.int .i64 x.f3) ∧ W.cell? ⟨g, 4, none⟩ = some (.slice A x.f4.length c) ∧ W.cell? ⟨g, 5, none⟩ = some (.int .u64 x.f5)
theorem St.cells {w W : World} {g c : Nat} {pd pl A : Option Addr} {x : S26} (h : St w g pd pl x A c W) : Cells g x A c W := ⟨h.c1, h.c2, h.c3, h.c4, h.c5⟩
theorem cell_new (w : World) (cs : Array Value) (t : TypeId) (i : Nat) (v : Value) (h : cs[i]? = some v) : (w.alloc (.cells cs t)).cell? ⟨w.heap.size, i, none⟩ = some v := (blk_cell (heap_alloc_new w (.cells cs t)) i).trans h
theorem St.start {w : World} {A : Option Addr} {c : Nat} {x : S26} {co cd cl : Array Value} {t0 td tl : TypeId} (hC : Kd.C (Kd.int .i64) w A x.f4.length x.f4)
    (h1 : co[1]? = some (.string x.f1)) (h2 : co[2]? = some (.string x.f2)) (h3 : co[3]? = some (.int .i64 x.f3)) (h4 : co[4]? = some (.slice A x.f4.length c)) (h5 : co[5]? = some (.int .u64 x.f5))
    (hd : cd[0]? = some (.int .i64 0)) (hl : cl[0]? = some (.pointer none)) :
    St w w.heap.size (some ⟨w.heap.size + 1, 0, none⟩) (some ⟨w.heap.size + 2, 0, none⟩) x A c (((w.alloc (.cells co t0)).alloc (.cells cd td)).alloc (.cells cl tl)) := by
  have b0 : Below w.heap.size w (w.alloc (.cells co t0)) := below_alloc (Below.refl _ _) _
  have b1 : Below (w.alloc (.cells co t0)).heap.size (w.alloc (.cells co t0)) ((w.alloc (.cells co t0)).alloc (.cells cd td)) := below_alloc (Below.refl _ _) _
  have b2 : Below ((w.alloc (.cells co t0)).alloc (.cells cd td)).heap.size ((w.alloc (.cells co t0)).alloc (.cells cd td)) (((w.alloc (.cells co t0)).alloc (.cells cd td)).alloc (.cells cl tl)) := below_alloc (Below.refl _ _) _
  have b12 := below_step b1 b2
  have sz : ∀ (u : World) (o : Obj), (u.alloc o).heap.size = u.heap.size + 1 := fun u o => by show (u.heap.push _).size = _; exact Array.size_push _
  have e1 := sz w (.cells co t0)
  have e2 : ((w.alloc (.cells co t0)).alloc (.cells cd td)).heap.size = w.heap.size + 2 := by rw [sz, sz]
  have f1 := cell_new (w.alloc (.cells co t0)) _ td _ _ hd
  have f2 := cell_new ((w.alloc (.cells co t0)).alloc (.cells cd td)) _ tl _ _ hl
  rw [e1] at f1
  rw [e2] at f2
  have b02 := below_step b0 b12
  exact ⟨b02, pw_cell_below b12 (cell_new _ _ _ _ _ h1), pw_cell_below b12 (cell_new _ _ _ _ _ h2), pw_cell_below b12 (cell_new _ _ _ _ _ h3), pw_cell_below b12 (cell_new _ _ _ _ _ h4), pw_cell_below b12 (cell_new _ _ _ _ _ h5), .inr ⟨_, rfl, pw_cell_below b2 f1⟩, .inr ⟨_, rfl, f2⟩, Kd.C_below hC b02⟩

/-- The answers, each ErrNil. -/
structure Es (w : World) (b : Nat) (W : World) : Prop where
  bel : Below w.heap.size w W
  cell : ∀ j, j < 15 → W.cell? ⟨b, j, none⟩ = some (.int .i64 1)
theorem Es.below {w W W' : World} {b : Nat} (h : Es w b W) (hb : Below W.heap.size W W') : Es w b W' := ⟨below_step h.bel hb, fun j hj => pw_cell_below hb (h.cell j hj)⟩
theorem Es.start {w W : World} (h : Below w.heap.size w W) (t : TypeId) : Es w W.heap.size (W.alloc (.cells #[.int .i64 1, .int .i64 1, .int .i64 1, .int .i64 1, .int .i64 1, .int .i64 1, .int .i64 1, .int .i64 1, .int .i64 1, .int .i64 1, .int .i64 1, .int .i64 1, .int .i64 1, .int .i64 1, .int .i64 1] t)) :=
  ⟨below_step h (below_alloc (Below.refl _ _) _), fun j hj => cell_new _ _ _ _ _ (by
    have e : (#[.int .i64 1, .int .i64 1, .int .i64 1, .int .i64 1, .int .i64 1, .int .i64 1, .int .i64 1, .int .i64 1, .int .i64 1, .int .i64 1, .int .i64 1, .int .i64 1, .int .i64 1, .int .i64 1, .int .i64 1] : Array Value) = Array.replicate 15 (.int .i64 1) := rfl
    rw [e, Array.getElem?_replicate, if_pos hj])⟩

set_option maxRecDepth 100000 in
set_option maxHeartbeats 8000000 in
theorem walk (x : S26) (cs : Array Value) (w : World) (hK : k26.K w x cs.toList) (q : x.f4.length * 8 ≤ 140737488351232) :
    Calls Tryz.prog 3 #[.agg cs] w fun e w' => e = .returned (.bool true) ∧ Below w.heap.size w w' := by
  obtain ⟨A, c, B, n, d, hcs, hl, hC⟩ := k26_open hK
  obtain rfl : cs = #[.int .i64 x.f0, .string x.f1, .string x.f2, .int .i64 x.f3, .slice A x.f4.length c, .int .u64 x.f5, .int .i64 x.f6, .slice B n d] := by cases cs; simp_all
  have HC := Aside0.mk hC
  have HL := Aside0.mk hl
  have HF := Aside0.mk (copied_is x.f4 (by omega))
  have HS := Aside0.mk (St.start (w := w) (x := x) (c := c) (co := #[.int .i64 x.f0, .string x.f1, .string x.f2, .int .i64 x.f3, .slice A x.f4.length c, .int .u64 x.f5, .int .i64 x.f6, .slice B n d]) (t0 := 26) (cd := #[.int .i64 0, .map none, .map none, .slice none 0 0, .int .i64 0, .bool false, .int .i64 0]) (td := 32)
    (cl := #[.pointer none, .int .i64 0, .int .i64 0, .int .u64 0, .int .i64 0, .bool false, .slice none 0 0, .pointer none, .slice none 0 0, .int .i64 0, .int .u64 0, .int .u64 0, .nilFunc]) (tl := 43) hC rfl rfl rfl rfl rfl rfl rfl)
  clear hK hC hl q hcs
  go_enter Tryz.func3, Tryz.ntmps3
  go_wp2_with (first
    | (go_at_call 7; refine (read_un _ x.f1 _ HS.out.d).mono ?_; rintro e w1 ⟨rfl, hb⟩; have HS := Aside0.mk (HS.out.below hb); have c5 := HS.out.c5; clear hb)
    | (go_at_call 8; go_loud (refine (lappend_un _ _ _ _ _ _ (HS.out.l.below ?ub)).mono ?_; (case ub => with_reducible exact below_alloc (Below.refl _ _) _); rintro e w2 ⟨rfl, hb⟩; have HS := Aside0.mk (HS.out.below (below_step (below_alloc (Below.refl _ _) _) hb)); have c5 := HS.out.c5; clear hb))
    | (go_at_call 9; refine (lsync_un _ _ HS.out.l).mono ?_; rintro e w3 ⟨rfl, hb⟩; have HS := Aside0.mk (HS.out.below hb); have c5 := HS.out.c5; clear hb)
    | (go_at_call 10; refine (ltrim_un _ _ _ HS.out.l).mono ?_; rintro e w4 ⟨rfl, hb⟩; have HS := Aside0.mk (HS.out.below hb); have c5 := HS.out.c5; clear hb))
  clear c5
  have HS := Aside0.mk HS.out.drew
  go_region_held3 (fun w' => w'.cell? ⟨w.heap.size, 1, none⟩ = some (.string x.f1) ∧ w'.cell? ⟨w.heap.size, 2, none⟩ = some (.string x.f2) ∧ w'.cell? ⟨w.heap.size, 3, none⟩ = some (.int .i64 x.f3) ∧ w'.cell? ⟨w.heap.size, 4, none⟩ = some (.slice A x.f4.length c) ∧ w'.cell? ⟨w.heap.size, 5, none⟩ = some (.int .u64 x.f5))
    (first | exact HS.out.cells | exact (HS.out.below (below_alloc (Below.refl _ _) _)).cells)
    (first
      | (go_at_call 11; refine (lflush_un _ _ HS.out.l).mono ?_; rintro e wn ⟨rfl, hb⟩; have HS := Aside0.mk (HS.out.below hb); clear hb)
      | (go_at_call 12; refine (lmark_un _ _ _ HS.out.l).mono ?_; rintro e wn ⟨rfl, hb⟩; have HS := Aside0.mk (HS.out.below hb); clear hb)
      | (go_at_call 13; refine (create_un _ _ _ HS.out.d).mono ?_; rintro e wn ⟨rfl, hb⟩; have HS := Aside0.mk (HS.out.below hb); clear hb)
      | (go_at_call 14; refine (append_un _ _ _ _ HS.out.d).mono ?_; rintro e wn ⟨rfl, hb⟩; have HS := Aside0.mk (HS.out.below hb); clear hb)
      | (go_at_call 15; refine (sync_un _ _ _ HS.out.d).mono ?_; rintro e wn ⟨rfl, hb⟩; have HS := Aside0.mk (HS.out.below hb); clear hb)
      | (go_at_call 16; refine (rename_un _ _ _ _ HS.out.d).mono ?_; rintro e wn ⟨rfl, hb⟩; have HS := Aside0.mk (HS.out.below hb); clear hb)
      | (go_at_call 17; refine (remove_un _ _ _ HS.out.d).mono ?_; rintro e wn ⟨rfl, hb⟩; have HS := Aside0.mk (HS.out.below hb); clear hb)
      | (go_at_call 18; refine (syncDir_un _ _ HS.out.d).mono ?_; rintro e wn ⟨rfl, hb⟩; have HS := Aside0.mk (HS.out.below hb); clear hb)
      | (go_at_call 19; refine (cut_un _ _ _ HS.out.d).mono ?_; rintro e wn ⟨rfl, hb⟩; have HS := Aside0.mk (HS.out.below hb); clear hb)
      | (go_at_call 21; refine (stratalaw11_copied.calls (x.f4.length + 1) A c x.f4 x.f4 _ HS.out.k HL.out HF.out).mono ?_; rintro e wn ⟨v0, rfl, ho, hb⟩; obtain ⟨Ac, cc, rfl⟩ := Kd.R_slice ho; have HS := Aside0.mk (HS.out.below hb); clear hb ho)
      | (go_at_call 20; refine (crash_un _ _ _ _ _ _ HS.out.d).mono ?_; rintro e wn ⟨rfl, hb⟩; have HS := Aside0.mk (HS.out.below hb); clear hb)
      | (go_at_call 22; refine (rot_un _ _ _ _ _ HS.out.d).mono ?_; rintro e wn ⟨rfl, hb⟩; have HS := Aside0.mk (HS.out.below hb); clear hb))
  have HE := Aside0.mk (Es.start HS.out.bel 44)
  clear HS HC HL HF
  go_wp2
  go_loopg [14] 16 (fun gk v14 wr => ∃ (i : Nat) (z : Int), v14 = .int .i64 z ∧ Aside0 (z = (i : Int) ∧ i ≤ 15 ∧ 15 < i + gk) ∧ Aside0 (Es w wn.heap.size wr))
  case atStart => exact ⟨0, _, rfl, ⟨rfl, by omega, by omega⟩, HE⟩
  case round =>
    clear HE
    obtain ⟨i, z, rfl, HI, HE⟩ := hrel
    by_cases hz : z < 15
    · have d0 : decide (z < 15) = true := decide_eq_true hz
      have HZ := Aside0.mk hz
      have q0 : (z < 15) = True := eq_true hz
      have p0 : (0 ≤ z) = True := eq_true (by have := HI.out; omega)
      have hx := HE.out.cell z.toNat (by have := HI.out; omega)
      have hwz : Aside0 (wrap64 (z + 1) = (i : Int) + 1) := ⟨by have := HI.out; exact (w64 (by omega) (by omega)).trans (by omega)⟩
      clear hz
      go_wp2_with (first
        | (go_at_call 23; refine (stratalaw11_num.calls _ _ _ rfl).mono ?_; rintro e w9 ⟨rfl, hd⟩; have HE := Aside0.mk (HE.out.below hd.below); clear hd hx))
      cases gk with
      | zero => exact absurd HI.out.2.2 (by have := HI.out; have := HZ.out; omega)
      | succ k =>
      go_roundg k
      case measure => omega
      case rel => exact ⟨i + 1, _, rfl, ⟨by have := HI.out; have := HZ.out; refine ⟨hwz.out.trans (by omega), by omega, by omega⟩⟩, HE⟩
    · have d0 : decide (z < 15) = false := decide_eq_false hz
      have HB := Aside0.mk HE.out.bel
      clear hz HI HE
      go_wp2
      go_ret
      exact ⟨rfl, HB.out⟩
end Go.Proofs.YtjggkopmhhhiiaaGreatDoor.HUnmade
