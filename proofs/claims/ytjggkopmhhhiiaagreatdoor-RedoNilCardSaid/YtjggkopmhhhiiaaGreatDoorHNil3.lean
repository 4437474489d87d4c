/- RedoNil: the law's walk. -/
import Derived.Test.YtjggkopmhhhiiaaGreatDoorHNil
import Derived.Test.YtjggkopmhhhiiaaGreatDoorHNil2
set_option linter.unusedVariables false
set_option linter.unusedSimpArgs false
namespace Go.Proofs.YtjggkopmhhhiiaaGreatDoor.HNil3
open Go.RowKit Go.Proofs.YtjggkopmhhhiiaaGreatDoor.HKinds Go.Proofs.YtjggkopmhhhiiaaGreatDoor.HUnm Go.Proofs.YtjggkopmhhhiiaaGreatDoor.HUnmade Go.Proofs.YtjggkopmhhhiiaaGreatDoor.HNil Go.Proofs.YtjggkopmhhhiiaaGreatDoor.HNil2 Go.Proofs.YtjggkopmhhhiiaaGreatDoor.PSm Go.Proofs.YtjggkopmhhhiiaaGreatDoorW.PrintWords Go.Proofs.YtjggkopmhhhiiaaGreatDoorW.PrintLast Go.Proofs.YtjggkopmhhhiiaaGreatDoorW.PrintMore Go.Proofs.YtjggkopmhhhiiaaGreatDoor.HCore

set_option maxRecDepth 100000 in
theorem read_nl (n : ByteArray) (w : World) : Calls Tryz.prog 7 #[.pointer none, .string n] w fun e w' => e = .returned (.tuple #[.string ⟨#[]⟩, .int .i64 1]) ∧ w' = w := by
  go_enter Tryz.func7, Tryz.ntmps7
  go_wp2_with (first
    | (go_at_call 52; refine (missing_nil _).mono ?_; rintro e w1 ⟨rfl, rfl⟩))
  go_ret2
  exact ⟨rfl, rfl⟩
set_option maxRecDepth 100000 in
theorem room_nl  (w : World) : Calls Tryz.prog 29 #[.pointer none] w fun e w' => e = .returned (.tuple #[.int .i64 0, .int .i64 0]) ∧ w' = w := by
  go_enter Tryz.func29, Tryz.ntmps29
  go_wp2_with (first
    | (go_at_call 52; refine (missing_nil _).mono ?_; rintro e w1 ⟨rfl, rfl⟩))
  go_ret2
  exact ⟨rfl, rfl⟩
set_option maxRecDepth 100000 in
theorem changes_nl  (w : World) : Calls Tryz.prog 30 #[.pointer none] w fun e w' => e = .returned (.int .i64 0) ∧ w' = w := by
  go_enter Tryz.func30, Tryz.ntmps30
  go_wp2_with (first
    | (go_at_call 52; refine (missing_nil _).mono ?_; rintro e w1 ⟨rfl, rfl⟩))
  go_ret
  exact ⟨rfl, rfl⟩
set_option maxRecDepth 100000 in
theorem copy_nl  (w : World) : Calls Tryz.prog 31 #[.pointer none] w fun e w' => e = .returned (.pointer none) ∧ w' = w := by
  go_enter Tryz.func31, Tryz.ntmps31
  go_wp2_with (first
    | (go_at_call 52; refine (missing_nil _).mono ?_; rintro e w1 ⟨rfl, rfl⟩))
  go_ret
  exact ⟨rfl, rfl⟩
theorem num11 (n : Int) (w : World) : Calls Tryz.prog 23 #[.int .i64 n] w fun e w' => e = .returned (.int .i64 n) ∧ w' = w := by
  go_enter Tryz.func23, Tryz.ntmps23
  go_wp2
  go_ret
  exact ⟨rfl, rfl⟩
set_option maxRecDepth 100000 in
set_option maxHeartbeats 8000000 in
theorem walk (x : S26) (cs : Array Value) (w : World) (hK : k26.K w x cs.toList) (q : x.f4.length * 8 ≤ 140737488351232) :
    Calls Tryz.prog 4 #[.agg cs] w fun e w' => e = .returned (.bool true) ∧ Below w.heap.size w w' := by
  obtain ⟨A, c, B, n, d, hcs, hl, hC⟩ := k26_open hK
  obtain rfl : cs = #[.int .i64 x.f0, .string x.f1, .string x.f2, .int .i64 x.f3, .slice A x.f4.length c, .int .u64 x.f5, .int .i64 x.f6, .slice B n d] := by cases cs; simp_all
  have HC := Aside0.mk hC
  have HL := Aside0.mk hl
  have HF : Aside0 (x.f4.length < 17592186044416) := ⟨by omega⟩
  have HS := Aside0.mk (St.start0 (w := w) (x := x) (c := c) (co := #[.int .i64 x.f0, .string x.f1, .string x.f2, .int .i64 x.f3, .slice A x.f4.length c, .int .u64 x.f5, .int .i64 x.f6, .slice B n d]) (t0 := 26) hC rfl rfl rfl rfl rfl)
  have H6 := Aside0.mk (cell_new w #[.int .i64 x.f0, .string x.f1, .string x.f2, .int .i64 x.f3, .slice A x.f4.length c, .int .u64 x.f5, .int .i64 x.f6, .slice B n d] 26 6 _ rfl)
  clear hK hC hl q hcs
  go_enter Tryz.func4, Tryz.ntmps4
  go_wp2_with (first
    | (go_at_call 24; refine (nothing_any x A c B n d _ HS.out.k HL.out HF.out).mono ?_; rintro e wn ⟨rfl, hb⟩; have HS := Aside0.mk (HS.out.below hb); have H6 := Aside0.mk (pw_cell_below hb H6.out); clear hb; obtain ⟨c1, c2, c3, c4, c5⟩ := HS.out.cells; have c6 := H6.out)
    | (go_at_call 25; refine (newDevice_one _).mono ?_; rintro e wn ⟨rfl, hb⟩; have HS := Aside0.mk (HS.out.below hb); have H6 := Aside0.mk (pw_cell_below hb H6.out); clear hb; obtain ⟨c1, c2, c3, c4, c5⟩ := HS.out.cells; have c6 := H6.out)
    | (go_at_call 23; refine (num11 _ _).mono ?_; rintro e wn ⟨rfl, rfl⟩)
    | (go_at_call 26; refine (open_nil _ _ _ _).mono ?_; rintro e wn ⟨rfl, hb⟩; have HS := Aside0.mk (HS.out.below hb); clear hb c1 c2 c3 c4 c5 c6)
    | (go_at_call 27; go_loud (refine (replay_nil _).mono ?_; rintro e wn ⟨rfl, hb⟩; have hs := (HS.out.below (below_alloc (Below.refl _ _) _)).below hb; have HS := Aside0.mk hs; obtain ⟨c1, c2, c3, c4, c5⟩ := hs.cells; have t0 := pw_cell_below hb (cell_new _ _ _ 0 (.int .i64 0) rfl); have t1 := pw_cell_below hb (cell_new _ _ _ 1 (.int .i64 0) rfl); have t2 := pw_cell_below hb (cell_new _ _ _ 2 (.int .i64 0) rfl); have t3 := pw_cell_below hb (cell_new _ _ _ 3 (.int .u64 0) rfl); have ha : Below wn.heap.size wn (wn.alloc (.cells #[.int .i64 0, .int .i64 0, .int .i64 0, .int .u64 1] 74)) := below_alloc (Below.refl _ _) _; have d1 := pw_cell_below ha c1; have a0 := pw_cell_below ha t0; have a1 := pw_cell_below ha t1; have a2 := pw_cell_below ha t2; have a3 := pw_cell_below ha t3; clear ha c1 t0 t1 t2 t3; clear hb hs c2 c3 c4 c5))
    | (go_at_call 7; refine (read_nl _ _).mono ?_; rintro e wm ⟨rfl, rfl⟩)
    | (go_at_call 28; refine (list_nil _).mono ?_; rintro e wm ⟨rfl, rfl⟩)
    | (go_at_call 29; refine (room_nl _).mono ?_; rintro e wm ⟨rfl, rfl⟩)
    | (go_at_call 30; refine (changes_nl _).mono ?_; rintro e wm ⟨rfl, rfl⟩)
    | (go_at_call 31; refine (copy_nl _).mono ?_; rintro e wm ⟨rfl, rfl⟩))
  go_ret
  exact ⟨rfl, below_alloc HS.out.bel _⟩
end Go.Proofs.YtjggkopmhhhiiaaGreatDoor.HNil3
