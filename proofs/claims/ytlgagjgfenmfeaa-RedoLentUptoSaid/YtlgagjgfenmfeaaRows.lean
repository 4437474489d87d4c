/-
  No cell of these rows narrows 'for every input' (looked for: loops, veiled, ifaces, maps, wideKeys, modest, calm, conditions, laid).
  DERIVED. THE GIVEN ROWS OF THIS SEAT. 5 by the template 'for every input the law returns true; each argument reads behind the call as it read before'; 0 by the template 'total and deterministic' (their statements: YtlgagjgfenmfeaaTotals.lean).
  GIVEN WITH THE SEED: the statements are not yours to turn. If you find one false, say at which input.
  Laid BY PROGRAM, IN A SANDBOX (cutbox-rows.mjs): the forced cells as the released guide's own fill.sh prints them over the translation b95df318b01ae31c… (all of the seat's roots in one cut). By AI agents, Wed Nov 11 2026. No macro, syntax, notation, axiom, sorry.
-/
import Derived.Test.YtlgagjgfenmfeaaChecked
import GoSem.Claim
import GoSem.ClaimJoined
import GoSem.ClaimMapViews
import Derived.JoinedTies
import Derived.KernelRfl
namespace Go.Proofs.Ytlgagjgfenmfeaa
/- THE CELL 'sum', in the pinned program and in every row, IS THE sha256 OF THE DUMP (.gsa) THAT YtlgagjgfenmfeaaProg.lean LOADS. Nothing in Lean hashes anything: it is a label: what it is worth is what the hold of that sum in a sandbox is worth. -/
noncomputable def Try.pinned : Pinned := { name := "ytlgagjgfenmfeaa", sum := "b95df318b01ae31caad3edb8621e656cad3d0141ca8eb3b6b0ea41a65aaa4b01", checked := Try.checked }
namespace Rows
def none {H : Type} : Left H := { results := [], args := [] }

/-- 'stratalaw11.RedoWrites': WHATEVER THE INPUT: true; the input reads as it did. -/
def redoWritesSpec : ChangeSpec := { name := "redoWrites", fn := fun _ => fun
  | [d] => { results := [.lit (.bool true)], args := [d] }
  | _ => none }
def redoWritesRow : OpenClaim := { program := "ytlgagjgfenmfeaa", sum := "b95df318b01ae31caad3edb8621e656cad3d0141ca8eb3b6b0ea41a65aaa4b01", func := "strata/stratalaw11.RedoWrites", spec := "redoWrites", inPlace := ["internal/abi.NoEscape"], apart := false }
def RedoWritesSaid : Prop := redoWritesRow.holds Try.pinned (OpenSpec.ofChange redoWritesSpec)

/-- ITS FALSE NEIGHBOUR: 'it returns false'. Refute it at one input. -/
def redoWritesWrong : ChangeSpec := { name := "redoWrites", fn := fun _ => fun
  | [d] => { results := [.lit (.bool false)], args := [d] }
  | _ => none }
def RedoWritesWrongFalsely : Prop := redoWritesRow.holds Try.pinned (OpenSpec.ofChange redoWritesWrong)

/-- 'stratalaw11.RedoPlaced': WHATEVER THE INPUT: true; the input reads as it did. -/
def redoPlacedSpec : ChangeSpec := { name := "redoPlaced", fn := fun _ => fun
  | [d1, d2] => { results := [.lit (.bool true)], args := [d1, d2] }
  | _ => none }
def redoPlacedRow : OpenClaim := { program := "ytlgagjgfenmfeaa", sum := "b95df318b01ae31caad3edb8621e656cad3d0141ca8eb3b6b0ea41a65aaa4b01", func := "strata/stratalaw11.RedoPlaced", spec := "redoPlaced", inPlace := ["internal/abi.NoEscape"], apart := false }
def RedoPlacedSaid : Prop := redoPlacedRow.holds Try.pinned (OpenSpec.ofChange redoPlacedSpec)

/-- ITS FALSE NEIGHBOUR: 'it returns false'. Refute it at one input. -/
def redoPlacedWrong : ChangeSpec := { name := "redoPlaced", fn := fun _ => fun
  | [d1, d2] => { results := [.lit (.bool false)], args := [d1, d2] }
  | _ => none }
def RedoPlacedWrongFalsely : Prop := redoPlacedRow.holds Try.pinned (OpenSpec.ofChange redoPlacedWrong)

/-- 'stratalaw11.RedoParses': WHATEVER THE INPUT: true; the input reads as it did. -/
def redoParsesSpec : ChangeSpec := { name := "redoParses", fn := fun _ => fun
  | [d] => { results := [.lit (.bool true)], args := [d] }
  | _ => none }
def redoParsesRow : OpenClaim := { program := "ytlgagjgfenmfeaa", sum := "b95df318b01ae31caad3edb8621e656cad3d0141ca8eb3b6b0ea41a65aaa4b01", func := "strata/stratalaw11.RedoParses", spec := "redoParses", unfollowed := true, recurses := true, apart := false }
def RedoParsesSaid : Prop := redoParsesRow.holds Try.pinned (OpenSpec.ofChange redoParsesSpec)

/-- ITS FALSE NEIGHBOUR: 'it returns false'. Refute it at one input. -/
def redoParsesWrong : ChangeSpec := { name := "redoParses", fn := fun _ => fun
  | [d] => { results := [.lit (.bool false)], args := [d] }
  | _ => none }
def RedoParsesWrongFalsely : Prop := redoParsesRow.holds Try.pinned (OpenSpec.ofChange redoParsesWrong)

/-- 'stratalaw11.RedoLent': WHATEVER THE INPUT: true; the input reads as it did. -/
def redoLentSpec : ChangeSpec := { name := "redoLent", fn := fun _ => fun
  | [d] => { results := [.lit (.bool true)], args := [d] }
  | _ => none }
def redoLentRow : OpenClaim := { program := "ytlgagjgfenmfeaa", sum := "b95df318b01ae31caad3edb8621e656cad3d0141ca8eb3b6b0ea41a65aaa4b01", func := "strata/stratalaw11.RedoLent", spec := "redoLent", unfollowed := true, recurses := true, apart := false }
def RedoLentSaid : Prop := redoLentRow.holds Try.pinned (OpenSpec.ofChange redoLentSpec)

/-- ITS FALSE NEIGHBOUR: 'it returns false'. Refute it at one input. -/
def redoLentWrong : ChangeSpec := { name := "redoLent", fn := fun _ => fun
  | [d] => { results := [.lit (.bool false)], args := [d] }
  | _ => none }
def RedoLentWrongFalsely : Prop := redoLentRow.holds Try.pinned (OpenSpec.ofChange redoLentWrong)

/-- 'stratalaw11.RedoRoundTrip': WHATEVER THE INPUT: true; the input reads as it did. -/
def redoRoundTripSpec : ChangeSpec := { name := "redoRoundTrip", fn := fun _ => fun
  | [d1, d2] => { results := [.lit (.bool true)], args := [d1, d2] }
  | _ => none }
def redoRoundTripRow : OpenClaim := { program := "ytlgagjgfenmfeaa", sum := "b95df318b01ae31caad3edb8621e656cad3d0141ca8eb3b6b0ea41a65aaa4b01", func := "strata/stratalaw11.RedoRoundTrip", spec := "redoRoundTrip", inPlace := ["internal/abi.NoEscape"], unfollowed := true, recurses := true, apart := false }
def RedoRoundTripSaid : Prop := redoRoundTripRow.holds Try.pinned (OpenSpec.ofChange redoRoundTripSpec)

/-- ITS FALSE NEIGHBOUR: 'it returns false'. Refute it at one input. -/
def redoRoundTripWrong : ChangeSpec := { name := "redoRoundTrip", fn := fun _ => fun
  | [d1, d2] => { results := [.lit (.bool false)], args := [d1, d2] }
  | _ => none }
def RedoRoundTripWrongFalsely : Prop := redoRoundTripRow.holds Try.pinned (OpenSpec.ofChange redoRoundTripWrong)

/- THE SECOND FORM. 'bulk': how many values and letters a reading holds, each counted each time it is reached (what is shared counts as often as it is met; a slice's spare places count too). A statement '..UptoSaid' is the law's where the arguments, and the package variables that the reading takes, are together of bulk at most 1048576: NARROWER than '..Said'. Prove '..Said' where nothing that the law and all that it calls make is longer than what came in: it says more and counts as full. Else prove '..UptoSaid'. A law counts once. -/
mutual
def uptoBulk {H : Type} : DataW H → Nat
  | .lit (.string bytes) => bytes.length + 1
  | .lit _ => 1
  | .nil => 1
  | .ptr d => uptoBulk d + 1
  | .slice elems spare => uptoBulkAll elems + uptoBulkAll spare + 1
  | .agg parts => uptoBulkAll parts + 1
  | .iface _ d => uptoBulk d + 1
  | .map entries => uptoBulkEntries entries + 1
  | .held _ => 1
def uptoBulkAll {H : Type} : List (DataW H) → Nat
  | [] => 0
  | d :: r => uptoBulk d + uptoBulkAll r
def uptoBulkEntries {H : Type} : List (Lit × DataW H) → Nat
  | [] => 0
  | x :: r => uptoBulkEntry x + uptoBulkEntries r
def uptoBulkEntry {H : Type} : Lit × DataW H → Nat
  | (.string bytes, d) => bytes.length + uptoBulk d + 1
  | (_, d) => uptoBulk d + 1
 end
def uptoSmall : (H : Type) → List (DataW H) → Bool := fun _ ds => decide (uptoBulkAll ds ≤ 1048576)
def OpenSpec.upto (s : _root_.Go.ChangeSpec) : _root_.Go.OpenSpec := { _root_.Go.OpenSpec.ofChange s with cond := some uptoSmall }

/-- 'stratalaw11.RedoWrites', WHERE WHAT IT READS IS OF BULK AT MOST 1048576: true; the input reads as it did. -/
def redoWritesUptoRow : OpenClaim := { program := "ytlgagjgfenmfeaa", sum := "b95df318b01ae31caad3edb8621e656cad3d0141ca8eb3b6b0ea41a65aaa4b01", func := "strata/stratalaw11.RedoWrites", spec := "redoWrites", inPlace := ["internal/abi.NoEscape"], apart := false, narrowed := true }
def RedoWritesUptoSaid : Prop := redoWritesUptoRow.holds Try.pinned (OpenSpec.upto redoWritesSpec)

/-- 'stratalaw11.RedoPlaced', WHERE WHAT IT READS IS OF BULK AT MOST 1048576: true; the input reads as it did. -/
def redoPlacedUptoRow : OpenClaim := { program := "ytlgagjgfenmfeaa", sum := "b95df318b01ae31caad3edb8621e656cad3d0141ca8eb3b6b0ea41a65aaa4b01", func := "strata/stratalaw11.RedoPlaced", spec := "redoPlaced", inPlace := ["internal/abi.NoEscape"], apart := false, narrowed := true }
def RedoPlacedUptoSaid : Prop := redoPlacedUptoRow.holds Try.pinned (OpenSpec.upto redoPlacedSpec)

/-- 'stratalaw11.RedoParses', WHERE WHAT IT READS IS OF BULK AT MOST 1048576: true; the input reads as it did. -/
def redoParsesUptoRow : OpenClaim := { program := "ytlgagjgfenmfeaa", sum := "b95df318b01ae31caad3edb8621e656cad3d0141ca8eb3b6b0ea41a65aaa4b01", func := "strata/stratalaw11.RedoParses", spec := "redoParses", unfollowed := true, recurses := true, apart := false, narrowed := true }
def RedoParsesUptoSaid : Prop := redoParsesUptoRow.holds Try.pinned (OpenSpec.upto redoParsesSpec)

/-- 'stratalaw11.RedoLent', WHERE WHAT IT READS IS OF BULK AT MOST 1048576: true; the input reads as it did. -/
def redoLentUptoRow : OpenClaim := { program := "ytlgagjgfenmfeaa", sum := "b95df318b01ae31caad3edb8621e656cad3d0141ca8eb3b6b0ea41a65aaa4b01", func := "strata/stratalaw11.RedoLent", spec := "redoLent", unfollowed := true, recurses := true, apart := false, narrowed := true }
def RedoLentUptoSaid : Prop := redoLentUptoRow.holds Try.pinned (OpenSpec.upto redoLentSpec)

/-- 'stratalaw11.RedoRoundTrip', WHERE WHAT IT READS IS OF BULK AT MOST 1048576: true; the input reads as it did. -/
def redoRoundTripUptoRow : OpenClaim := { program := "ytlgagjgfenmfeaa", sum := "b95df318b01ae31caad3edb8621e656cad3d0141ca8eb3b6b0ea41a65aaa4b01", func := "strata/stratalaw11.RedoRoundTrip", spec := "redoRoundTrip", inPlace := ["internal/abi.NoEscape"], unfollowed := true, recurses := true, apart := false, narrowed := true }
def RedoRoundTripUptoSaid : Prop := redoRoundTripUptoRow.holds Try.pinned (OpenSpec.upto redoRoundTripSpec)

end Rows
end Go.Proofs.Ytlgagjgfenmfeaa
