/- RedoWrites: the row: out of the walk and the plain law. -/
import Derived.Test.YtdepngppnbobdaaRows
import Derived.Test.YtdepngppnbobdaaHWrites
import Derived.Test.YtdepngppnbobdaaHOpen
import Derived.WalkKit
import Derived.ProofKit
import Derived.OpenShut
import Derived.ShutString
import Derived.ChangeOld
import Derived.Below
import Derived.SizedLaws
import Derived.Carry
set_option linter.unusedVariables false
namespace Go.Proofs.Ytdepngppnbobdaa.redoWrites
open Go.ChangeShapes Go.WideShapes Go.ChangeAt Go.RowKit Go.Proofs.YtdepngppnbobdaaW.PrintWords Go.Proofs.Ytdepngppnbobdaa
open Go.ChangeMaps (open_string shut_string)
theorem own : ownKnob Try.prog.godebug = none := by kernel_rfl
theorem laidOut : laidOutB Try.prog = true := by kernel_rfl
set_option maxRecDepth 100000 in
theorem lifted (os : Os) (started : os.Started) (H : Type) (enc : TypeId × Value → H) :
    ReturnsInHanded {} Try.checked os 3 .any (Rows.redoWritesSpec.pre6 enc Try.prog Try.f3 Rows.redoWritesRow.domain false) (Rows.redoWritesSpec.post enc Try.prog Try.f3 false true false false) := by
  refine returnsInHanded_of_change_sized (C := Try.checked) own started (by kernel_rfl) Try.func3
    (ChangeSpec.witness6 (enc := enc) (C := Try.checked) false ⟨#[], #[.agg #[.int .u64 0, .slice none 0 0]], []⟩ 8 (by kernel_rfl) (by kernel_rfl) (by kernel_rfl) (by kernel_rfl)) ?_
  intro W base args ds gs before hval0 hW hcnd hsz0 _
  have hsz : (DataW.weightsEach Try.prog (Try.f3.params.toList ++ Rows.redoWritesSpec.plain.varTypes Try.prog) (ds ++ gs)).all (· ≤ reachBytes) = true := hsz0
  have hval : ∀ (j : Nat) t v, Try.f3.params[j]? = some t → args[j]? = some v → Value.okWide Try.prog W .any base t v := hval0
  have hW' := hW
  obtain ⟨p, q, hA0, hV, rfl, hfz, hnd⟩ := hW
  have hA : DataW.TrodAll enc Try.prog W 0 (fun _ => true) true Try.f3.params.toList args.toList ds p := hA0
  rw [Try.params3] at hA hval hsz
  obtain ⟨v0, vs0, d0, ds0, p0, q0, hargs, rfl, rfl, h0, r0⟩ := trodAll_cons hA
  obtain ⟨rfl, rfl, rfl⟩ := trodAll_nil r0
  obtain rfl : args = #[v0] := by cases args; simp_all
  obtain ⟨rfl, rfl⟩ := trodVars_none hV
  have k0 := h0
  have lt0 : ∀ x ∈ p0, x.block < W.heap.size := by obtain ⟨m, hm⟩ := k0; exact DataW.trod_lt m _ _ _ hm
  obtain ⟨x0, hK0, Q0⟩ := HOpen.opens_arg (d := Go.Proofs.Ytdepngppnbobdaa.HKinds.k25) (HOpen.opens_iso (fun x : Go.Proofs.Ytdepngppnbobdaa.HKinds.S25 => (x.f0, x.f1)) (fun a => ⟨a.1, a.2⟩) (fun _ => rfl) (HOpen.opens_struct Try.underlying25 (HOpen.opens_cons (HOpen.opens_int Try.underlying22) (by kernel_rfl) rfl (HOpen.opens_one (HOpen.opens_slice (e' := 36) (B := 40) Try.underlying23 (HOpen.opens_iso (fun x : Go.Proofs.Ytdepngppnbobdaa.HKinds.S36 => (x.f0, x.f1, x.f2)) (fun a => ⟨a.1, a.2.1, a.2.2⟩) (fun _ => rfl) (HOpen.opens_struct Try.underlying36 (HOpen.opens_cons (HOpen.opens_int Try.underlying3) (by kernel_rfl) rfl (HOpen.opens_cons (HOpen.opens_string Try.underlying9) (by kernel_rfl) rfl (HOpen.opens_one (HOpen.opens_string Try.underlying9) (by kernel_rfl) rfl) rfl) rfl) (by kernel_rfl))) (by kernel_rfl) (by kernel_rfl)) (by kernel_rfl) rfl) rfl) (by kernel_rfl))) h0 hsz (j := 0) rfl rfl
  obtain ⟨cs0, rfl, _⟩ := okWide_struct Try.underlying25 (hval 0 25 v0 rfl rfl)
  replace hK0 : (Go.Proofs.Ytdepngppnbobdaa.HKinds.k25).K W x0 cs0.toList := hK0
  clear hA0 hval0 hsz0 hsz
  refine (HWrites.walk x0 cs0 W hK0 Q0.2.1).mono fun e W' ⟨he, bel⟩ => ?_
  subst he
  exact ⟨_, rfl, _, _, _, [], _, [], hW', trodAll_mk1 (shut_bool Try.underlying4 _), (trodAll_cons_mk (Below.trod laidOut (by kernel_rfl) (of_decide_eq_true (by kernel_rfl)) k0 bel lt0) trodAll_mk0), rfl, bel.frame _, fun h => by cases h⟩
theorem said : Rows.RedoWritesSaid :=
  OpenClaim.holds_of_wide 3 Try.f3 rfl rfl rfl rfl rfl rfl rfl ⟨rfl, rfl, rfl, rfl, rfl⟩ rfl rfl rfl rfl rfl (by kernel_rfl) Try.func3 (by kernel_rfl)
    (of_decide_eq_true (by kernel_rfl)) (by unfold Func.isWrapper; first | (rw [if_pos (by decide +kernel)]; kernel_rfl) | (rw [if_neg (by decide +kernel)]; exact ⟨rfl, rfl⟩))
    (fun os started H enc _ => lifted os started H enc)
end Go.Proofs.Ytdepngppnbobdaa.redoWrites
namespace Go.Proofs.Ytdepngppnbobdaa
theorem redoWrites_holds : Rows.RedoWritesSaid := redoWrites.said
end Go.Proofs.Ytdepngppnbobdaa
