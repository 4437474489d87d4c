/- The package's variables hold what a row lists: the table of shapes, and some whole number in internal/bytealg's own. -/
import Derived.Test.YtbekgkikgcmmaaaDoorHBitM
import Derived.Test.YtbekgkikgcmmaaaDoorRows
import Derived.Lib.LaidTab
import Derived.Shelf.Vars
set_option linter.unusedVariables false
set_option linter.unusedSimpArgs false
namespace Go.Proofs.YtbekgkikgcmmaaaDoor.HBitTab
open Go.RowKit Go.Proofs.YtbekgkikgcmmaaaDoor.HBitE

theorem laid_tail {P : Program} {x : String × DataW Unit} {r : List (String × DataW Unit)} {w : World} (h : laidMet P (x :: r) w) : laidMet P r w := by
  obtain ⟨ps, hv, hnd, hrows⟩ := h
  obtain ⟨n, d⟩ := x
  obtain ⟨g, t, cs, fuel, p, q, _, _, _, _, hq, rfl⟩ := hv
  exact ⟨q, hq, List.Nodup.sublist (List.sublist_append_right _ _) hnd, fun b off hm => hrows b off (List.mem_append_right _ hm)⟩
theorem two_of {α : Type} : ∀ {l : List α}, l.length = 2 → ∃ a b, l = [a, b]
  | [a, b], _ => ⟨a, b, rfl⟩
theorem four_of {α : Type} : ∀ {l : List α}, l.length = 4 → ∃ a b c d, l = [a, b, c, d]
  | [a, b, c, d], _ => ⟨a, b, c, d, rfl⟩
theorem eight_of {α : Type} : ∀ {l : List α}, l.length = 8 → ∃ a b c d e f g h, l = [a, b, c, d, e, f, g, h]
  | [a, b, c, d, e, f, g, h], _ => ⟨a, b, c, d, e, f, g, h, rfl⟩
theorem c96 : Tryd.prog.cellsOf 96 = 8 := by kernel_rfl
theorem c95 : Tryd.prog.cellsOf 95 = 2 := by kernel_rfl
theorem c46 : Tryd.prog.cellsOf 46 = 1 := by kernel_rfl
theorem c4 : Tryd.prog.cellsOf 4 = 1 := by kernel_rfl
theorem one_shape {H : Type} {enc : TypeId × Value → H} {w : World} {base : Nat} {sp : Nat → Bool} {held : Bool} {fuel : Nat} {cs : List Value} {u : Int} {b : Bool} {p : List MemPlace}
    (h : DataW.trod enc Tryd.prog w base sp held fuel 95 cs = some (.agg [.lit (.int .u64 u), .lit (.bool b)], p)) : cs = [.int .u64 u, .bool b] := by
  obtain ⟨xs, n, rfl, hx, hl, hn, hf⟩ := DataW.trod_struct Tryd.underlying95 h
  rw [c95] at hl
  have hn2 : xs.length = 2 := hn.trans rfl
  clear hn
  have h0 : DataW.trod enc Tryd.prog w base sp held n 46 ((cs.drop 0).take (Tryd.prog.cellsOf 46)) = xs[0]? := hf 0 _ rfl
  have h1 : DataW.trod enc Tryd.prog w base sp held n 4 ((cs.drop 1).take (Tryd.prog.cellsOf 4)) = xs[1]? := hf 1 _ rfl
  rw [c46] at h0
  rw [c4] at h1
  clear hf
  obtain ⟨c0, c1, rfl⟩ := two_of hl
  obtain ⟨x0, x1, rfl⟩ := two_of hn2
  simp only [Prod.mk.injEq, DataW.agg.injEq, List.map_cons, List.map_nil, List.cons.injEq, and_true] at hx
  obtain ⟨⟨e0, e1⟩, _⟩ := hx
  obtain ⟨n0, g0, g1, _⟩ := DataW.trod_int Tryd.underlying46 h0
  obtain ⟨n1, g2, g3⟩ := DataW.trod_bool Tryd.underlying4 h1
  rw [g1] at e0
  rw [g3] at e1
  simp at e0 e1 g0 g2
  rw [g0, g2, e0, e1]
theorem shapes_cells {H : Type} {enc : TypeId × Value → H} {w : World} {base : Nat} {sp : Nat → Bool} {held : Bool} {fuel : Nat} {cs : List Value} {p : List MemPlace}
    (h : DataW.trod enc Tryd.prog w base sp held fuel 96 cs = some (Rows.laid_strata_bits_shapes, p)) : cs = shp := by
  cases fuel with
  | zero => simp [DataW.trod] at h
  | succ fuel =>
    simp only [DataW.trod, Tryd.underlying96, c95, c96] at h
    split at h
    · rename_i hl
      obtain ⟨xs, hm, hx⟩ := Option.map_eq_some_iff.1 h
      have hxs : xs.map (·.1) = [.agg [.lit (.int .u64 1), .lit (.bool false)], .agg [.lit (.int .u64 2), .lit (.bool false)], .agg [.lit (.int .u64 0), .lit (.bool false)], .agg [.lit (.int .u64 1), .lit (.bool true)]] := by
        have := congrArg Prod.fst hx
        simpa [Rows.laid_strata_bits_shapes] using this
      have hn : xs.length = 4 := by simpa using congrArg List.length hxs
      obtain ⟨x0, x1, x2, x3, rfl⟩ := four_of hn
      obtain ⟨b0, g0, f0⟩ := Lib.mapM_at hm 0 0 rfl
      obtain ⟨b1, g1, f1⟩ := Lib.mapM_at hm 1 1 rfl
      obtain ⟨b2, g2, f2⟩ := Lib.mapM_at hm 2 2 rfl
      obtain ⟨b3, g3, f3⟩ := Lib.mapM_at hm 3 3 rfl
      cases g0; cases g1; cases g2; cases g3
      simp only [List.map_cons, List.map_nil, List.cons.injEq, and_true] at hxs
      obtain ⟨e0, e1, e2, e3⟩ := hxs
      obtain ⟨y0, q0⟩ := x0
      obtain ⟨y1, q1⟩ := x1
      obtain ⟨y2, q2⟩ := x2
      obtain ⟨y3, q3⟩ := x3
      dsimp only at e0 e1 e2 e3
      subst e0; subst e1; subst e2; subst e3
      have k0 := one_shape f0
      have k1 := one_shape f1
      have k2 := one_shape f2
      have k3 := one_shape f3
      obtain ⟨a0, a1, a2, a3, a4, a5, a6, a7, rfl⟩ := eight_of hl
      simp at k0 k1 k2 k3
      obtain ⟨rfl, rfl⟩ := k0
      obtain ⟨rfl, rfl⟩ := k1
      obtain ⟨rfl, rfl⟩ := k2
      obtain ⟨rfl, rfl⟩ := k3
      rfl
    · cases h
theorem gShapes : Tryd.prog.globalNamed "strata/bits.shapes" = some 0 := by kernel_rfl
theorem gShapesType : (Tryd.prog.globals[0]?).map (·.type) = some 96 := by kernel_rfl
theorem tab_of {x : String × DataW Unit} {r : List (String × DataW Unit)} {W : World} (h : laidMet Tryd.prog (x :: ("strata/bits.shapes", Rows.laid_strata_bits_shapes) :: r) W) (hs : W.ShapedOpen Tryd.prog) : Tab W := by
  refine ⟨?_, cell_of_shapedOpen_int hs (t := 3) (zero := #[.int .i64 0]) (of_decide_eq_true (by kernel_rfl)) (by kernel_rfl) rfl (by kernel_rfl) (by kernel_rfl) Tryd.underlying3⟩
  obtain ⟨ps, ⟨g', t', cs, fuel, p, q, hg', ht', hvar, hd, _, _⟩, _⟩ := laid_tail h
  obtain rfl := Option.some.inj (gShapes.symm.trans hg')
  obtain rfl := Option.some.inj (gShapesType.symm.trans ht')
  have hc := shapes_cells hd
  intro j hj
  have := World.var?_cell gShapes hvar j
  rw [this, ← hc]
  simp
end Go.Proofs.YtbekgkikgcmmaaaDoor.HBitTab
