/- ImageTells: the row and its card: out of the walk and the plain law; the tables that it lists are tied to the program's text by the given ties. -/
import Derived.Test.YtejjidggnnhgjaaDoorZT5
import Derived.Test.YtejjidggnnhgjaaDoorCards
import Derived.Test.YtejjidggnnhgjaaDoorTie
import Derived.WalkKit
import Derived.ProofKit
import Derived.OpenShut
import Derived.ShutString
import Derived.ChangeOld
import Derived.Below
import Derived.SizedLaws
import Derived.Deep.DeepHandedRow
import Derived.Lib.LaidTab
import Derived.Carry
set_option linter.unusedVariables false
namespace Go.Proofs.YtejjidggnnhgjaaDoor.imageTells
open Go.ChangeShapes Go.WideShapes Go.ChangeAt Go.RowKit Go.Proofs.YtejjidggnnhgjaaDoorW.PrintWords Go.Proofs.YtejjidggnnhgjaaDoor
open Go.ChangeMaps (open_string shut_string)
theorem own : ownKnob Tryd.prog.godebug = none := by kernel_rfl
theorem laidOut : laidOutB Tryd.prog = true := by kernel_rfl
theorem gTab0 : Tryd.prog.globalNamed "strata/bits.halves" = some 0 := by kernel_rfl
theorem gTabType0 : (Tryd.prog.globals[0]?).map (·.type) = some 142 := by kernel_rfl
theorem cellsA0 : Tryd.prog.cellsOf 142 = 16 := by kernel_rfl
theorem cellsE0 : Tryd.prog.cellsOf 34 = 1 := by kernel_rfl
theorem table0 {W : World} (h : laidMetH Tryd.prog Rows.imageTellsRow.laid W) : Lib.TabIs Tryd.prog W "strata/bits.halves" .u32 [0, 274646895, 549293790, 820201905, 1098587580, 1361435347, 1640403810, 1905808397, 2197175160, 2460548119, 2722870694, 2987750089, 3280807620, 3553878443, 3811616794, 4084100981] :=
  Lib.tabIs_of_head (rest := _) gTab0 gTabType0 Tryd.underlying142 Tryd.underlying34 cellsE0 cellsA0 h
/-- A world for the witness: the settled one, the tables holding what the program's text lays. -/
noncomputable def laidWorld (os : Os) : World :=
  { World.holding Tryd.prog os ⟨#[], #[], []⟩ with heap := (World.holding Tryd.prog os ⟨#[], #[], []⟩).heap.modify 0 (fun | .cells _ t frozen => .cells #[.int .u32 0, .int .u32 274646895, .int .u32 549293790, .int .u32 820201905, .int .u32 1098587580, .int .u32 1361435347, .int .u32 1640403810, .int .u32 1905808397, .int .u32 2197175160, .int .u32 2460548119, .int .u32 2722870694, .int .u32 2987750089, .int .u32 3280807620, .int .u32 3553878443, .int .u32 3811616794, .int .u32 4084100981] t frozen | o => o) }
theorem laid_met (os : Os) : laidMet Tryd.prog Rows.imageTellsRow.laid ((laidWorld os).forCall (fun _ _ => 0) ⟨#[], #[.agg #[.int .i64 0, .int .u64 0, .int .u64 0, .slice none 0 0, .int .i64 0, .slice none 0 0], .agg #[.int .i64 0, .int .i64 0, .int .u64 0, .slice none 0 0], .int .u64 0, .int .u8 0], []⟩).memory :=
  laidMet_of_run' 8 (by kernel_rfl) (by kernel_rfl)
theorem reads (os : Os) {H : Type} (enc : TypeId × Value → H) : ∃ places, DataW.whole enc Tryd.prog ((laidWorld os).forCall (fun _ _ => 0) ⟨#[], #[.agg #[.int .i64 0, .int .u64 0, .int .u64 0, .slice none 0 0, .int .i64 0, .slice none 0 0], .agg #[.int .i64 0, .int .i64 0, .int .u64 0, .slice none 0 0], .int .u64 0, .int .u8 0], []⟩).memory Tryd.f6.params.toList Rows.imageTellsSpec.vars false (#[.agg #[.int .i64 0, .int .u64 0, .int .u64 0, .slice none 0 0, .int .i64 0, .slice none 0 0], .agg #[.int .i64 0, .int .i64 0, .int .u64 0, .slice none 0 0], .int .u64 0, .int .u8 0] : Array Value).toList 8 = some ([.agg [.lit (.int .i64 0), .lit (.int .u64 0), .lit (.int .u64 0), .nil, .lit (.int .i64 0), .nil], .agg [.lit (.int .i64 0), .lit (.int .i64 0), .lit (.int .u64 0), .nil], .lit (.int .u64 0), .lit (.int .u8 0)], [], places) :=
  ⟨[], by kernel_rfl⟩
set_option maxRecDepth 100000 in
theorem lifted (os : Os) (started : os.Started) (H : Type) (enc : TypeId × Value → H) (F : Stop.Interp) :
    ReturnsInHanded {} Tryd.checked os 6 .any ((OpenSpec.ofChange Rows.imageTellsSpec).preRow enc Tryd.prog Tryd.f6 Rows.imageTellsRow.domain false Rows.imageTellsRow.laid) (((OpenSpec.ofChange Rows.imageTellsSpec).at F).post enc Tryd.prog Tryd.f6 false true false false) := by
  obtain ⟨places, hx⟩ := reads os enc
  refine returnsInHanded_of_row (C := Tryd.checked) (s := OpenSpec.ofChange Rows.imageTellsSpec) own started (by kernel_rfl) Tryd.func6
    (witness_row_at (enc := enc) (C := Tryd.checked) false (laidWorld os) #[.agg #[.int .i64 0, .int .u64 0, .int .u64 0, .slice none 0 0, .int .i64 0, .slice none 0 0], .agg #[.int .i64 0, .int .i64 0, .int .u64 0, .slice none 0 0], .int .u64 0, .int .u8 0] rfl (by kernel_rfl) (by kernel_rfl) (by kernel_rfl)
      (OpenSpec.preRow_of_cond 8 hx (by kernel_rfl) (fun k hk => by cases hk) (by kernel_rfl) (laid_met os))) ?_
  intro W base args ds gs before hval0 hW hcnd hcond hsz0 hL hSh _
  have hsz : (DataW.weightsEach Tryd.prog (Tryd.f6.params.toList ++ Rows.imageTellsSpec.plain.varTypes Tryd.prog) (ds ++ gs)).all (· ≤ reachBytes) = true := hsz0
  have hval : ∀ (j : Nat) t v, Tryd.f6.params[j]? = some t → args[j]? = some v → Value.okWide Tryd.prog W .any base t v := hval0
  have hW' := hW
  obtain ⟨p, q, hA0, hV, rfl, hfz, hnd⟩ := hW
  have hA : DataW.TrodAll enc Tryd.prog W 0 (fun _ => true) true Tryd.f6.params.toList args.toList ds p := hA0
  rw [Tryd.params6] at hA hval hsz
  obtain ⟨v0, vs0, d0, ds0, p0, q0, hargs, rfl, rfl, h0, r0⟩ := trodAll_cons hA
  obtain ⟨v1, vs1, d1, ds1, p1, q1, rfl, rfl, rfl, h1, r1⟩ := trodAll_cons r0
  obtain ⟨v2, vs2, d2, ds2, p2, q2, rfl, rfl, rfl, h2, r2⟩ := trodAll_cons r1
  obtain ⟨v3, vs3, d3, ds3, p3, q3, rfl, rfl, rfl, h3, r3⟩ := trodAll_cons r2
  obtain ⟨rfl, rfl, rfl⟩ := trodAll_nil r3
  obtain rfl : args = #[v0, v1, v2, v3] := by cases args; simp_all
  obtain ⟨rfl, rfl⟩ := trodVars_none hV
  have k0 := h0
  have lt0 : ∀ x ∈ p0, x.block < W.heap.size := by obtain ⟨m, hm⟩ := k0; exact DataW.trod_lt m _ _ _ hm
  obtain ⟨x0, hK0, Q0⟩ := HOpen.opens_arg (d := Go.Proofs.YtejjidggnnhgjaaDoor.HKinds.k46) (HOpen.opens_iso (fun x : Go.Proofs.YtejjidggnnhgjaaDoor.HKinds.S46 => (x.f0, x.f1, x.f2, x.f3, x.f4, x.f5)) (fun a => ⟨a.1, a.2.1, a.2.2.1, a.2.2.2.1, a.2.2.2.2.1, a.2.2.2.2.2⟩) (fun _ => rfl) (HOpen.opens_struct Tryd.underlying46 (HOpen.opens_cons (HOpen.opens_int Tryd.underlying3) (by kernel_rfl) rfl (HOpen.opens_cons (HOpen.opens_int Tryd.underlying22) (by kernel_rfl) rfl (HOpen.opens_cons (HOpen.opens_int Tryd.underlying22) (by kernel_rfl) rfl (HOpen.opens_cons (HOpen.opens_slice (e' := 58) (B := 40) Tryd.underlying43 (HOpen.opens_iso (fun x : Go.Proofs.YtejjidggnnhgjaaDoor.HKinds.S58 => (x.f0, x.f1, x.f2)) (fun a => ⟨a.1, a.2.1, a.2.2⟩) (fun _ => rfl) (HOpen.opens_struct Tryd.underlying58 (HOpen.opens_cons (HOpen.opens_int Tryd.underlying22) (by kernel_rfl) rfl (HOpen.opens_cons (HOpen.opens_string Tryd.underlying9) (by kernel_rfl) rfl (HOpen.opens_one (HOpen.opens_string Tryd.underlying9) (by kernel_rfl) rfl) rfl) rfl) (by kernel_rfl))) (by kernel_rfl) (by kernel_rfl)) (by kernel_rfl) rfl (HOpen.opens_cons (HOpen.opens_int Tryd.underlying3) (by kernel_rfl) rfl (HOpen.opens_one (HOpen.opens_slice (e' := 60) (B := 32) Tryd.underlying44 (HOpen.opens_iso (fun x : Go.Proofs.YtejjidggnnhgjaaDoor.HKinds.S60 => (x.f0, x.f1, x.f2)) (fun a => ⟨a.1, a.2.1, a.2.2⟩) (fun _ => rfl) (HOpen.opens_struct Tryd.underlying60 (HOpen.opens_cons (HOpen.opens_int Tryd.underlying22) (by kernel_rfl) rfl (HOpen.opens_cons (HOpen.opens_int Tryd.underlying22) (by kernel_rfl) rfl (HOpen.opens_one (HOpen.opens_string Tryd.underlying9) (by kernel_rfl) rfl) rfl) rfl) (by kernel_rfl))) (by kernel_rfl) (by kernel_rfl)) (by kernel_rfl) rfl) rfl) rfl) rfl) rfl) rfl) (by kernel_rfl))) h0 hsz (j := 0) rfl rfl
  obtain ⟨cs0, rfl, _⟩ := okWide_struct Tryd.underlying46 (hval 0 46 v0 rfl rfl)
  replace hK0 : (Go.Proofs.YtejjidggnnhgjaaDoor.HKinds.k46).K W x0 cs0.toList := hK0
  have k1 := h1
  have lt1 : ∀ x ∈ p1, x.block < W.heap.size := by obtain ⟨m, hm⟩ := k1; exact DataW.trod_lt m _ _ _ hm
  obtain ⟨x1, hK1, Q1⟩ := HOpen.opens_arg (d := Go.Proofs.YtejjidggnnhgjaaDoor.HKinds.k25) (HOpen.opens_iso (fun x : Go.Proofs.YtejjidggnnhgjaaDoor.HKinds.S25 => (x.f0, x.f1, x.f2, x.f3)) (fun a => ⟨a.1, a.2.1, a.2.2.1, a.2.2.2⟩) (fun _ => rfl) (HOpen.opens_struct Tryd.underlying25 (HOpen.opens_cons (HOpen.opens_int Tryd.underlying3) (by kernel_rfl) rfl (HOpen.opens_cons (HOpen.opens_int Tryd.underlying3) (by kernel_rfl) rfl (HOpen.opens_cons (HOpen.opens_int Tryd.underlying22) (by kernel_rfl) rfl (HOpen.opens_one (HOpen.opens_slice (e' := 36) (B := 56) Tryd.underlying23 (HOpen.opens_iso (fun x : Go.Proofs.YtejjidggnnhgjaaDoor.HKinds.S36 => (x.f0, x.f1, x.f2, x.f3, x.f4, x.f5, x.f6, x.f7)) (fun a => ⟨a.1, a.2.1, a.2.2.1, a.2.2.2.1, a.2.2.2.2.1, a.2.2.2.2.2.1, a.2.2.2.2.2.2.1, a.2.2.2.2.2.2.2⟩) (fun _ => rfl) (HOpen.opens_struct Tryd.underlying36 (HOpen.opens_cons (HOpen.opens_int Tryd.underlying3) (by kernel_rfl) rfl (HOpen.opens_cons (HOpen.opens_int Tryd.underlying22) (by kernel_rfl) rfl (HOpen.opens_cons (HOpen.opens_int Tryd.underlying22) (by kernel_rfl) rfl (HOpen.opens_cons (HOpen.opens_int Tryd.underlying3) (by kernel_rfl) rfl (HOpen.opens_cons (HOpen.opens_int Tryd.underlying3) (by kernel_rfl) rfl (HOpen.opens_cons (HOpen.opens_int Tryd.underlying3) (by kernel_rfl) rfl (HOpen.opens_cons (HOpen.opens_int Tryd.underlying34) (by kernel_rfl) rfl (HOpen.opens_one (HOpen.opens_int Tryd.underlying34) (by kernel_rfl) rfl) rfl) rfl) rfl) rfl) rfl) rfl) rfl) (by kernel_rfl))) (by kernel_rfl) (by kernel_rfl)) (by kernel_rfl) rfl) rfl) rfl) rfl) (by kernel_rfl))) h1 hsz (j := 1) rfl rfl
  obtain ⟨cs1, rfl, _⟩ := okWide_struct Tryd.underlying25 (hval 1 25 v1 rfl rfl)
  replace hK1 : (Go.Proofs.YtejjidggnnhgjaaDoor.HKinds.k25).K W x1 cs1.toList := hK1
  obtain ⟨a2, rfl, rfl, rfl, w2⟩ := open_int Tryd.underlying22 (hval 2 22 v2 rfl rfl) h2
  obtain ⟨a3, rfl, rfl, rfl, w3⟩ := open_int Tryd.underlying5 (hval 3 5 v3 rfl rfl) h3
  clear hA0 hval0 hsz0 hsz
  refine (HImTl.walk x0 cs0 x1 cs1 a2 a3 W hK0 hK1 Q0.2.1 Q0.2.2.2.1 Q0.2.2.2.2.2 Q1.2.2.1 Q1.2.2.2 w2 w3 (HSum.Tab.of (table0 hL) gTab0)).mono fun e W' ⟨he, bel⟩ => ?_
  subst he
  exact ⟨_, rfl, _, _, _, [], _, [], hW', trodAll_mk1 (shut_bool Tryd.underlying4 _), (trodAll_cons_mk (Below.trod laidOut (by kernel_rfl) (of_decide_eq_true (by kernel_rfl)) k0 bel lt0) (trodAll_cons_mk (Below.trod laidOut (by kernel_rfl) (of_decide_eq_true (by kernel_rfl)) k1 bel lt1) (trodAll_cons_mk (shut_int Tryd.underlying22 w2) (trodAll_cons_mk (shut_int Tryd.underlying5 w3) trodAll_mk0)))), rfl, bel.frame _, fun h => by cases h⟩
theorem said : Rows.ImageTellsSaid :=
  OpenClaim.holds_of_cond 6 Tryd.f6 rfl rfl rfl rfl rfl rfl rfl ⟨rfl, rfl, rfl, rfl, rfl⟩ rfl rfl rfl rfl rfl (by kernel_rfl) Tryd.func6 (by kernel_rfl)
    (of_decide_eq_true (by kernel_rfl)) (by unfold Func.isWrapper; first | (rw [if_pos (by decide +kernel)]; kernel_rfl) | (rw [if_neg (by decide +kernel)]; exact ⟨rfl, rfl⟩))
    (fun os started H enc _ F => by rw [OpenClaim.pre_eq_preRow]; exact lifted os started H enc F)
theorem plain (f : FuncId) (fn : Func) (hf : Tryd.pinned.checked.prog.funcNamed "strata/stratalaw12.ImageTells" = some f) (hfn : Tryd.pinned.checked.prog.funcs[f]? = some fn) :
    true = Tryd.pinned.checked.prog.looks [] ∧ ∀ (j : Nat) t, fn.params[j]? = some t → Tryd.pinned.checked.prog.wantsStandIn t = false := by
  obtain rfl : f = 6 := Option.some.inj ((show Tryd.prog.funcNamed "strata/stratalaw12.ImageTells" = some 6 by kernel_rfl).symm.trans hf) |>.symm
  obtain rfl : fn = Tryd.f6 := (Option.some.inj (Tryd.func6.symm.trans hfn)).symm
  refine ⟨by kernel_rfl, fun j t ht => ?_⟩
  rw [Tryd.params6] at ht
  have hm : t = 46 ∨ t = 25 ∨ t = 22 ∨ t = 5 := by simpa using Array.mem_of_getElem? ht
  rcases hm with rfl | rfl | rfl | rfl
  · exact (show Tryd.prog.wantsStandIn 46 = false by kernel_rfl)
  · exact (show Tryd.prog.wantsStandIn 25 = false by kernel_rfl)
  · exact (show Tryd.prog.wantsStandIn 22 = false by kernel_rfl)
  · exact (show Tryd.prog.wantsStandIn 5 = false by kernel_rfl)
theorem card : Rows.ImageTellsCardSaid :=
  Claim7.holds_tied_plain_at .later [] _ _ _ _ said (fun _ h => by cases h) (by kernel_rfl) (fun _ h => by cases h) imageTells_row_tie rfl ⟨rfl, rfl⟩ (by kernel_rfl) rfl plain (by kernel_rfl)
end Go.Proofs.YtejjidggnnhgjaaDoor.imageTells
namespace Go.Proofs.YtejjidggnnhgjaaDoor
theorem imageTells_holds : Rows.ImageTellsCardSaid := imageTells.card
end Go.Proofs.YtejjidggnnhgjaaDoor
