/-
  No cell of these rows narrows 'for every input' (looked for: loops, veiled, ifaces, maps, wideKeys, modest, calm, conditions, laid).
  DERIVED. THE GIVEN ROWS OF THIS SEAT. 10 by the template 'for every input the law returns true; each argument reads behind the call as it read before'; 0 by the template 'total and deterministic' (their statements: YtnanepgcaefhcaaTotals.lean).
  GIVEN WITH THE SEED: the statements are not yours to turn. If you find one false, say at which input.
  Laid BY PROGRAM, IN A SANDBOX (cutbox-rows.mjs): the forced cells as the released guide's own fill.sh prints them over the translation b6402e2e6257b77e… (all of the seat's roots in one cut). By AI agents, Wed Nov 11 2026. No macro, syntax, notation, axiom, sorry.
-/
import Derived.Test.YtnanepgcaefhcaaChecked
import GoSem.Claim
import GoSem.ClaimJoined
import GoSem.ClaimMapViews
import Derived.JoinedTies
import Derived.KernelRfl
namespace Go.Proofs.Ytnanepgcaefhcaa
/- THE CELL 'sum', in the pinned program and in every row, IS THE sha256 OF THE DUMP (.gsa) THAT YtnanepgcaefhcaaProg.lean LOADS. Nothing in Lean hashes anything: it is a label: what it is worth is what the hold of that sum in a sandbox is worth. -/
noncomputable def Try.pinned : Pinned := { name := "ytnanepgcaefhcaa", sum := "b6402e2e6257b77ee5aa690a80cfaa8a25b83a0ee17f40189cf4cbe16e126009", checked := Try.checked }
namespace Rows
def none {H : Type} : Left H := { results := [], args := [] }

/-- 'stratalaw01.BitsNames': WHATEVER THE INPUT: true; the input reads as it did. -/
def bitsNamesSpec : ChangeSpec := { name := "bitsNames", fn := fun _ => fun
  | [] => { results := [.lit (.bool true)], args := [] }
  | _ => none }
def bitsNamesRow : OpenClaim := { program := "ytnanepgcaefhcaa", sum := "b6402e2e6257b77ee5aa690a80cfaa8a25b83a0ee17f40189cf4cbe16e126009", func := "strata/stratalaw01.BitsNames", spec := "bitsNames", apart := false }
def BitsNamesSaid : Prop := bitsNamesRow.holds Try.pinned (OpenSpec.ofChange bitsNamesSpec)

/-- ITS FALSE NEIGHBOUR: 'it returns false'. Refute it at one input. -/
def bitsNamesWrong : ChangeSpec := { name := "bitsNames", fn := fun _ => fun
  | [] => { results := [.lit (.bool false)], args := [] }
  | _ => none }
def BitsNamesWrongFalsely : Prop := bitsNamesRow.holds Try.pinned (OpenSpec.ofChange bitsNamesWrong)

/-- 'stratalaw11.RedoNames': WHATEVER THE INPUT: true; the input reads as it did. -/
def redoNamesSpec : ChangeSpec := { name := "redoNames", fn := fun _ => fun
  | [] => { results := [.lit (.bool true)], args := [] }
  | _ => none }
def redoNamesRow : OpenClaim := { program := "ytnanepgcaefhcaa", sum := "b6402e2e6257b77ee5aa690a80cfaa8a25b83a0ee17f40189cf4cbe16e126009", func := "strata/stratalaw11.RedoNames", spec := "redoNames", apart := false }
def RedoNamesSaid : Prop := redoNamesRow.holds Try.pinned (OpenSpec.ofChange redoNamesSpec)

/-- ITS FALSE NEIGHBOUR: 'it returns false'. Refute it at one input. -/
def redoNamesWrong : ChangeSpec := { name := "redoNames", fn := fun _ => fun
  | [] => { results := [.lit (.bool false)], args := [] }
  | _ => none }
def RedoNamesWrongFalsely : Prop := redoNamesRow.holds Try.pinned (OpenSpec.ofChange redoNamesWrong)

/-- 'stratalaw13.ReviveNames': WHATEVER THE INPUT: true; the input reads as it did. -/
def reviveNamesSpec : ChangeSpec := { name := "reviveNames", fn := fun _ => fun
  | [] => { results := [.lit (.bool true)], args := [] }
  | _ => none }
def reviveNamesRow : OpenClaim := { program := "ytnanepgcaefhcaa", sum := "b6402e2e6257b77ee5aa690a80cfaa8a25b83a0ee17f40189cf4cbe16e126009", func := "strata/stratalaw13.ReviveNames", spec := "reviveNames", apart := false }
def ReviveNamesSaid : Prop := reviveNamesRow.holds Try.pinned (OpenSpec.ofChange reviveNamesSpec)

/-- ITS FALSE NEIGHBOUR: 'it returns false'. Refute it at one input. -/
def reviveNamesWrong : ChangeSpec := { name := "reviveNames", fn := fun _ => fun
  | [] => { results := [.lit (.bool false)], args := [] }
  | _ => none }
def ReviveNamesWrongFalsely : Prop := reviveNamesRow.holds Try.pinned (OpenSpec.ofChange reviveNamesWrong)

/-- 'stratalaw01.BitsAbove': WHATEVER THE INPUT: true; the input reads as it did. -/
def bitsAboveSpec : ChangeSpec := { name := "bitsAbove", fn := fun _ => fun
  | [d1, d2, d3] => { results := [.lit (.bool true)], args := [d1, d2, d3] }
  | _ => none }
def bitsAboveRow : OpenClaim := { program := "ytnanepgcaefhcaa", sum := "b6402e2e6257b77ee5aa690a80cfaa8a25b83a0ee17f40189cf4cbe16e126009", func := "strata/stratalaw01.BitsAbove", spec := "bitsAbove", apart := false }
def BitsAboveSaid : Prop := bitsAboveRow.holds Try.pinned (OpenSpec.ofChange bitsAboveSpec)

/-- ITS FALSE NEIGHBOUR: 'it returns false'. Refute it at one input. -/
def bitsAboveWrong : ChangeSpec := { name := "bitsAbove", fn := fun _ => fun
  | [d1, d2, d3] => { results := [.lit (.bool false)], args := [d1, d2, d3] }
  | _ => none }
def BitsAboveWrongFalsely : Prop := bitsAboveRow.holds Try.pinned (OpenSpec.ofChange bitsAboveWrong)

/-- 'stratalaw01.BitsNumbers': WHATEVER THE INPUT: true; the input reads as it did. -/
def bitsNumbersSpec : ChangeSpec := { name := "bitsNumbers", fn := fun _ => fun
  | [d1, d2, d3, d4] => { results := [.lit (.bool true)], args := [d1, d2, d3, d4] }
  | _ => none }
def bitsNumbersRow : OpenClaim := { program := "ytnanepgcaefhcaa", sum := "b6402e2e6257b77ee5aa690a80cfaa8a25b83a0ee17f40189cf4cbe16e126009", func := "strata/stratalaw01.BitsNumbers", spec := "bitsNumbers", apart := false }
def BitsNumbersSaid : Prop := bitsNumbersRow.holds Try.pinned (OpenSpec.ofChange bitsNumbersSpec)

/-- ITS FALSE NEIGHBOUR: 'it returns false'. Refute it at one input. -/
def bitsNumbersWrong : ChangeSpec := { name := "bitsNumbers", fn := fun _ => fun
  | [d1, d2, d3, d4] => { results := [.lit (.bool false)], args := [d1, d2, d3, d4] }
  | _ => none }
def BitsNumbersWrongFalsely : Prop := bitsNumbersRow.holds Try.pinned (OpenSpec.ofChange bitsNumbersWrong)

/-- 'stratalaw01.BitsWords': WHATEVER THE INPUT: true; the input reads as it did. -/
def bitsWordsSpec : ChangeSpec := { name := "bitsWords", fn := fun _ => fun
  | [d1, d2, d3, d4] => { results := [.lit (.bool true)], args := [d1, d2, d3, d4] }
  | _ => none }
def bitsWordsRow : OpenClaim := { program := "ytnanepgcaefhcaa", sum := "b6402e2e6257b77ee5aa690a80cfaa8a25b83a0ee17f40189cf4cbe16e126009", func := "strata/stratalaw01.BitsWords", spec := "bitsWords", apart := false }
def BitsWordsSaid : Prop := bitsWordsRow.holds Try.pinned (OpenSpec.ofChange bitsWordsSpec)

/-- ITS FALSE NEIGHBOUR: 'it returns false'. Refute it at one input. -/
def bitsWordsWrong : ChangeSpec := { name := "bitsWords", fn := fun _ => fun
  | [d1, d2, d3, d4] => { results := [.lit (.bool false)], args := [d1, d2, d3, d4] }
  | _ => none }
def BitsWordsWrongFalsely : Prop := bitsWordsRow.holds Try.pinned (OpenSpec.ofChange bitsWordsWrong)

/-- 'stratalaw01.BitsApart': WHATEVER THE INPUT: true; the input reads as it did. -/
def bitsApartSpec : ChangeSpec := { name := "bitsApart", fn := fun _ => fun
  | [d1, d2, d3, d4] => { results := [.lit (.bool true)], args := [d1, d2, d3, d4] }
  | _ => none }
def bitsApartRow : OpenClaim := { program := "ytnanepgcaefhcaa", sum := "b6402e2e6257b77ee5aa690a80cfaa8a25b83a0ee17f40189cf4cbe16e126009", func := "strata/stratalaw01.BitsApart", spec := "bitsApart", apart := false }
def BitsApartSaid : Prop := bitsApartRow.holds Try.pinned (OpenSpec.ofChange bitsApartSpec)

/-- ITS FALSE NEIGHBOUR: 'it returns false'. Refute it at one input. -/
def bitsApartWrong : ChangeSpec := { name := "bitsApart", fn := fun _ => fun
  | [d1, d2, d3, d4] => { results := [.lit (.bool false)], args := [d1, d2, d3, d4] }
  | _ => none }
def BitsApartWrongFalsely : Prop := bitsApartRow.holds Try.pinned (OpenSpec.ofChange bitsApartWrong)

/-- 'stratalaw01.BitsCompares': WHATEVER THE INPUT: true; the input reads as it did. -/
def bitsComparesSpec : ChangeSpec := { name := "bitsCompares", fn := fun _ => fun
  | [d1, d2, d3] => { results := [.lit (.bool true)], args := [d1, d2, d3] }
  | _ => none }
def bitsComparesRow : OpenClaim := { program := "ytnanepgcaefhcaa", sum := "b6402e2e6257b77ee5aa690a80cfaa8a25b83a0ee17f40189cf4cbe16e126009", func := "strata/stratalaw01.BitsCompares", spec := "bitsCompares", inPlace := ["internal/bytealg.abigen_runtime_cmpstring"], apart := false }
def BitsComparesSaid : Prop := bitsComparesRow.holds Try.pinned (OpenSpec.ofChange bitsComparesSpec)

/-- ITS FALSE NEIGHBOUR: 'it returns false'. Refute it at one input. -/
def bitsComparesWrong : ChangeSpec := { name := "bitsCompares", fn := fun _ => fun
  | [d1, d2, d3] => { results := [.lit (.bool false)], args := [d1, d2, d3] }
  | _ => none }
def BitsComparesWrongFalsely : Prop := bitsComparesRow.holds Try.pinned (OpenSpec.ofChange bitsComparesWrong)

/-- 'stratalaw01.BitsReads': WHATEVER THE INPUT: true; the input reads as it did. -/
def bitsReadsSpec : ChangeSpec := { name := "bitsReads", fn := fun _ => fun
  | [d1, d2] => { results := [.lit (.bool true)], args := [d1, d2] }
  | _ => none }
def bitsReadsRow : OpenClaim := { program := "ytnanepgcaefhcaa", sum := "b6402e2e6257b77ee5aa690a80cfaa8a25b83a0ee17f40189cf4cbe16e126009", func := "strata/stratalaw01.BitsReads", spec := "bitsReads", apart := false }
def BitsReadsSaid : Prop := bitsReadsRow.holds Try.pinned (OpenSpec.ofChange bitsReadsSpec)

/-- ITS FALSE NEIGHBOUR: 'it returns false'. Refute it at one input. -/
def bitsReadsWrong : ChangeSpec := { name := "bitsReads", fn := fun _ => fun
  | [d1, d2] => { results := [.lit (.bool false)], args := [d1, d2] }
  | _ => none }
def BitsReadsWrongFalsely : Prop := bitsReadsRow.holds Try.pinned (OpenSpec.ofChange bitsReadsWrong)

/-- 'stratalaw01.BitsBack': WHATEVER THE INPUT: true; the input reads as it did. -/
def bitsBackSpec : ChangeSpec := { name := "bitsBack", fn := fun _ => fun
  | [d1, d2, d3, d4, d5] => { results := [.lit (.bool true)], args := [d1, d2, d3, d4, d5] }
  | _ => none }
def bitsBackRow : OpenClaim := { program := "ytnanepgcaefhcaa", sum := "b6402e2e6257b77ee5aa690a80cfaa8a25b83a0ee17f40189cf4cbe16e126009", func := "strata/stratalaw01.BitsBack", spec := "bitsBack", apart := false }
def BitsBackSaid : Prop := bitsBackRow.holds Try.pinned (OpenSpec.ofChange bitsBackSpec)

/-- ITS FALSE NEIGHBOUR: 'it returns false'. Refute it at one input. -/
def bitsBackWrong : ChangeSpec := { name := "bitsBack", fn := fun _ => fun
  | [d1, d2, d3, d4, d5] => { results := [.lit (.bool false)], args := [d1, d2, d3, d4, d5] }
  | _ => none }
def BitsBackWrongFalsely : Prop := bitsBackRow.holds Try.pinned (OpenSpec.ofChange bitsBackWrong)

/- THE SECOND FORM. 'bulk': how many values and letters a reading holds, each counted each time it is reached (what is shared counts as often as it is met; a slice's spare places count too). A statement '..UptoSaid' is the law's where the arguments, and the package variables that the reading takes, are together of bulk at most 1048576: NARROWER than '..Said'. Prove '..Said' where nothing that the law and all that it calls make is longer than what came in: it says more and counts as full. Else prove '..UptoSaid'. A law counts once. -/
mutual
def uptoBulk {H : Type} : DataW H → Nat
  | .lit (.string bytes) => bytes.length + 1
  | .lit _ => 1
  | .nil => 1
  | .ptr d => uptoBulk d + 1
  | .slice elems spare => uptoBulkAll elems + uptoBulkAll spare + 1
  | .agg parts => uptoBulkAll parts + 1
  | .iface _ d => uptoBulk d + 1
  | .map entries => uptoBulkEntries entries + 1
  | .held _ => 1
def uptoBulkAll {H : Type} : List (DataW H) → Nat
  | [] => 0
  | d :: r => uptoBulk d + uptoBulkAll r
def uptoBulkEntries {H : Type} : List (Lit × DataW H) → Nat
  | [] => 0
  | x :: r => uptoBulkEntry x + uptoBulkEntries r
def uptoBulkEntry {H : Type} : Lit × DataW H → Nat
  | (.string bytes, d) => bytes.length + uptoBulk d + 1
  | (_, d) => uptoBulk d + 1
 end
def uptoSmall : (H : Type) → List (DataW H) → Bool := fun _ ds => decide (uptoBulkAll ds ≤ 1048576)
def OpenSpec.upto (s : _root_.Go.ChangeSpec) : _root_.Go.OpenSpec := { _root_.Go.OpenSpec.ofChange s with cond := some uptoSmall }

/-- 'stratalaw01.BitsNames', WHERE WHAT IT READS IS OF BULK AT MOST 1048576: true; the input reads as it did. -/
def bitsNamesUptoRow : OpenClaim := { program := "ytnanepgcaefhcaa", sum := "b6402e2e6257b77ee5aa690a80cfaa8a25b83a0ee17f40189cf4cbe16e126009", func := "strata/stratalaw01.BitsNames", spec := "bitsNames", apart := false, narrowed := true }
def BitsNamesUptoSaid : Prop := bitsNamesUptoRow.holds Try.pinned (OpenSpec.upto bitsNamesSpec)

/-- 'stratalaw11.RedoNames', WHERE WHAT IT READS IS OF BULK AT MOST 1048576: true; the input reads as it did. -/
def redoNamesUptoRow : OpenClaim := { program := "ytnanepgcaefhcaa", sum := "b6402e2e6257b77ee5aa690a80cfaa8a25b83a0ee17f40189cf4cbe16e126009", func := "strata/stratalaw11.RedoNames", spec := "redoNames", apart := false, narrowed := true }
def RedoNamesUptoSaid : Prop := redoNamesUptoRow.holds Try.pinned (OpenSpec.upto redoNamesSpec)

/-- 'stratalaw13.ReviveNames', WHERE WHAT IT READS IS OF BULK AT MOST 1048576: true; the input reads as it did. -/
def reviveNamesUptoRow : OpenClaim := { program := "ytnanepgcaefhcaa", sum := "b6402e2e6257b77ee5aa690a80cfaa8a25b83a0ee17f40189cf4cbe16e126009", func := "strata/stratalaw13.ReviveNames", spec := "reviveNames", apart := false, narrowed := true }
def ReviveNamesUptoSaid : Prop := reviveNamesUptoRow.holds Try.pinned (OpenSpec.upto reviveNamesSpec)

/-- 'stratalaw01.BitsAbove', WHERE WHAT IT READS IS OF BULK AT MOST 1048576: true; the input reads as it did. -/
def bitsAboveUptoRow : OpenClaim := { program := "ytnanepgcaefhcaa", sum := "b6402e2e6257b77ee5aa690a80cfaa8a25b83a0ee17f40189cf4cbe16e126009", func := "strata/stratalaw01.BitsAbove", spec := "bitsAbove", apart := false, narrowed := true }
def BitsAboveUptoSaid : Prop := bitsAboveUptoRow.holds Try.pinned (OpenSpec.upto bitsAboveSpec)

/-- 'stratalaw01.BitsNumbers', WHERE WHAT IT READS IS OF BULK AT MOST 1048576: true; the input reads as it did. -/
def bitsNumbersUptoRow : OpenClaim := { program := "ytnanepgcaefhcaa", sum := "b6402e2e6257b77ee5aa690a80cfaa8a25b83a0ee17f40189cf4cbe16e126009", func := "strata/stratalaw01.BitsNumbers", spec := "bitsNumbers", apart := false, narrowed := true }
def BitsNumbersUptoSaid : Prop := bitsNumbersUptoRow.holds Try.pinned (OpenSpec.upto bitsNumbersSpec)

/-- 'stratalaw01.BitsWords', WHERE WHAT IT READS IS OF BULK AT MOST 1048576: true; the input reads as it did. -/
def bitsWordsUptoRow : OpenClaim := { program := "ytnanepgcaefhcaa", sum := "b6402e2e6257b77ee5aa690a80cfaa8a25b83a0ee17f40189cf4cbe16e126009", func := "strata/stratalaw01.BitsWords", spec := "bitsWords", apart := false, narrowed := true }
def BitsWordsUptoSaid : Prop := bitsWordsUptoRow.holds Try.pinned (OpenSpec.upto bitsWordsSpec)

/-- 'stratalaw01.BitsApart', WHERE WHAT IT READS IS OF BULK AT MOST 1048576: true; the input reads as it did. -/
def bitsApartUptoRow : OpenClaim := { program := "ytnanepgcaefhcaa", sum := "b6402e2e6257b77ee5aa690a80cfaa8a25b83a0ee17f40189cf4cbe16e126009", func := "strata/stratalaw01.BitsApart", spec := "bitsApart", apart := false, narrowed := true }
def BitsApartUptoSaid : Prop := bitsApartUptoRow.holds Try.pinned (OpenSpec.upto bitsApartSpec)

/-- 'stratalaw01.BitsCompares', WHERE WHAT IT READS IS OF BULK AT MOST 1048576: true; the input reads as it did. -/
def bitsComparesUptoRow : OpenClaim := { program := "ytnanepgcaefhcaa", sum := "b6402e2e6257b77ee5aa690a80cfaa8a25b83a0ee17f40189cf4cbe16e126009", func := "strata/stratalaw01.BitsCompares", spec := "bitsCompares", inPlace := ["internal/bytealg.abigen_runtime_cmpstring"], apart := false, narrowed := true }
def BitsComparesUptoSaid : Prop := bitsComparesUptoRow.holds Try.pinned (OpenSpec.upto bitsComparesSpec)

/-- 'stratalaw01.BitsReads', WHERE WHAT IT READS IS OF BULK AT MOST 1048576: true; the input reads as it did. -/
def bitsReadsUptoRow : OpenClaim := { program := "ytnanepgcaefhcaa", sum := "b6402e2e6257b77ee5aa690a80cfaa8a25b83a0ee17f40189cf4cbe16e126009", func := "strata/stratalaw01.BitsReads", spec := "bitsReads", apart := false, narrowed := true }
def BitsReadsUptoSaid : Prop := bitsReadsUptoRow.holds Try.pinned (OpenSpec.upto bitsReadsSpec)

/-- 'stratalaw01.BitsBack', WHERE WHAT IT READS IS OF BULK AT MOST 1048576: true; the input reads as it did. -/
def bitsBackUptoRow : OpenClaim := { program := "ytnanepgcaefhcaa", sum := "b6402e2e6257b77ee5aa690a80cfaa8a25b83a0ee17f40189cf4cbe16e126009", func := "strata/stratalaw01.BitsBack", spec := "bitsBack", apart := false, narrowed := true }
def BitsBackUptoSaid : Prop := bitsBackUptoRow.holds Try.pinned (OpenSpec.upto bitsBackSpec)

end Rows
end Go.Proofs.Ytnanepgcaefhcaa
