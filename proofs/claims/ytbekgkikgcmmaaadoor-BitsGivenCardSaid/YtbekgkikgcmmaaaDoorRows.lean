/-
  NARROWER THAN 'FOR EVERY INPUT', by the rows' own cells (each row's printed sentence says how): BitsKeys: laid · BitsOrder: laid · BitsTexts: laid · BitsGiven: laid · BitsOneForm: laid.
  DERIVED. THE GIVEN ROWS OF THIS SEAT. 5 by the template 'for every input the law returns true; each argument reads behind the call as it read before'; 0 by the template 'total and deterministic' (their statements: YtbekgkikgcmmaaaDoorTotals.lean).
  GIVEN WITH THE SEED: the statements are not yours to turn. If you find one false, say at which input.
  Laid BY PROGRAM, IN A SANDBOX (cutbox-rows.mjs): the forced cells as the released guide's own fill.sh prints them over the translation 400b7e9006c1bdb6… (all of the seat's roots in one cut). By AI agents, Wed Nov 11 2026. No macro, syntax, notation, axiom, sorry.
-/
import Derived.Test.YtbekgkikgcmmaaaDoorChecked
import GoSem.PinnedTables
import GoSem.Claim
import GoSem.ClaimJoined
import GoSem.ClaimMapViews
import Derived.JoinedTies
import Derived.KernelRfl
namespace Go.Proofs.YtbekgkikgcmmaaaDoor
/- THE CELL 'sum', in the pinned program and in every row, IS THE sha256 OF THE DUMP (.gsa) THAT YtbekgkikgcmmaaaDoorProg.lean LOADS. Nothing in Lean hashes anything: it is a label: what it is worth is what the hold of that sum in a sandbox is worth. -/
noncomputable def Tryd.pinned : Pinned := { name := "ytbekgkikgcmmaaadoor", sum := "400b7e9006c1bdb6d0692c7f397106f9ca4aff77ef40d3ed58739db209541316", checked := Tryd.checked }
namespace Rows
def none {H : Type} : Left H := { results := [], args := [] }

/- WHAT THE LISTED PACKAGE-LEVEL VARIABLES READ AS WHEN THE CALL BEGINS. Each datum BY PROGRAM (the guide's laid-datum.mjs) off the statement by which the dump's own 'gosem.cut.vars' lays the variable. In a bare row this is a premise. The card (YtbekgkikgcmmaaaDoorCards.lean) ties it to the program's text. -/
def laid_unicode_utf8_acceptRanges {H : Type} : DataW H := .agg [.agg [.lit (.int .u8 128), .lit (.int .u8 191)], .agg [.lit (.int .u8 160), .lit (.int .u8 191)], .agg [.lit (.int .u8 128), .lit (.int .u8 159)], .agg [.lit (.int .u8 144), .lit (.int .u8 191)], .agg [.lit (.int .u8 128), .lit (.int .u8 143)], .agg [.lit (.int .u8 0), .lit (.int .u8 0)], .agg [.lit (.int .u8 0), .lit (.int .u8 0)], .agg [.lit (.int .u8 0), .lit (.int .u8 0)], .agg [.lit (.int .u8 0), .lit (.int .u8 0)], .agg [.lit (.int .u8 0), .lit (.int .u8 0)], .agg [.lit (.int .u8 0), .lit (.int .u8 0)], .agg [.lit (.int .u8 0), .lit (.int .u8 0)], .agg [.lit (.int .u8 0), .lit (.int .u8 0)], .agg [.lit (.int .u8 0), .lit (.int .u8 0)], .agg [.lit (.int .u8 0), .lit (.int .u8 0)], .agg [.lit (.int .u8 0), .lit (.int .u8 0)]]
def laid_strata_bits_shapes {H : Type} : DataW H := .agg [.agg [.lit (.int .u64 1), .lit (.bool false)], .agg [.lit (.int .u64 2), .lit (.bool false)], .agg [.lit (.int .u64 0), .lit (.bool false)], .agg [.lit (.int .u64 1), .lit (.bool true)]]
/-- One of Go's own tables, pinned by name: the form's constant. -/
def laid_unicode_utf8_first : DataW Unit := Go.Pinned.utf8First

/-- 'stratalaw01.BitsKeys': WHATEVER THE INPUT: true; the input reads as it did. -/
def bitsKeysSpec : ChangeSpec := { name := "bitsKeys", fn := fun _ => fun
  | [d] => { results := [.lit (.bool true)], args := [d] }
  | _ => none }
def bitsKeysRow : OpenClaim := { program := "ytbekgkikgcmmaaadoor", sum := "400b7e9006c1bdb6d0692c7f397106f9ca4aff77ef40d3ed58739db209541316", func := "strata/stratalaw01.BitsKeys", spec := "bitsKeys", inPlace := ["internal/bytealg.CountString", "internal/bytealg.IndexByteString", "internal/bytealg.IndexString", "internal/abi.NoEscape", "internal/bytealg.MakeNoZero"], unfollowed := true, recurses := true, named := ["strata/bits.shapes", "internal/bytealg.MaxLen", "unicode/utf8.first", "unicode/utf8.acceptRanges"], apart := false, laid := [("unicode/utf8.acceptRanges", laid_unicode_utf8_acceptRanges), ("strata/bits.shapes", laid_strata_bits_shapes), ("unicode/utf8.first", laid_unicode_utf8_first)] }
def BitsKeysSaid : Prop := bitsKeysRow.holds Tryd.pinned (OpenSpec.ofChange bitsKeysSpec)

/-- ITS FALSE NEIGHBOUR: 'it returns false'. Refute it at one input. -/
def bitsKeysWrong : ChangeSpec := { name := "bitsKeys", fn := fun _ => fun
  | [d] => { results := [.lit (.bool false)], args := [d] }
  | _ => none }
def BitsKeysWrongFalsely : Prop := bitsKeysRow.holds Tryd.pinned (OpenSpec.ofChange bitsKeysWrong)

/-- 'stratalaw01.BitsOrder': WHATEVER THE INPUT: true; the input reads as it did. -/
def bitsOrderSpec : ChangeSpec := { name := "bitsOrder", fn := fun _ => fun
  | [d1, d2] => { results := [.lit (.bool true)], args := [d1, d2] }
  | _ => none }
def bitsOrderRow : OpenClaim := { program := "ytbekgkikgcmmaaadoor", sum := "400b7e9006c1bdb6d0692c7f397106f9ca4aff77ef40d3ed58739db209541316", func := "strata/stratalaw01.BitsOrder", spec := "bitsOrder", inPlace := ["internal/bytealg.CountString", "internal/bytealg.IndexByteString", "internal/bytealg.IndexString", "internal/abi.NoEscape", "internal/bytealg.MakeNoZero", "internal/bytealg.abigen_runtime_cmpstring"], unfollowed := true, recurses := true, named := ["strata/bits.shapes", "internal/bytealg.MaxLen", "unicode/utf8.first", "unicode/utf8.acceptRanges"], apart := false, laid := [("unicode/utf8.acceptRanges", laid_unicode_utf8_acceptRanges), ("strata/bits.shapes", laid_strata_bits_shapes), ("unicode/utf8.first", laid_unicode_utf8_first)] }
def BitsOrderSaid : Prop := bitsOrderRow.holds Tryd.pinned (OpenSpec.ofChange bitsOrderSpec)

/-- ITS FALSE NEIGHBOUR: 'it returns false'. Refute it at one input. -/
def bitsOrderWrong : ChangeSpec := { name := "bitsOrder", fn := fun _ => fun
  | [d1, d2] => { results := [.lit (.bool false)], args := [d1, d2] }
  | _ => none }
def BitsOrderWrongFalsely : Prop := bitsOrderRow.holds Tryd.pinned (OpenSpec.ofChange bitsOrderWrong)

/-- 'stratalaw01.BitsTexts': WHATEVER THE INPUT: true; the input reads as it did. -/
def bitsTextsSpec : ChangeSpec := { name := "bitsTexts", fn := fun _ => fun
  | [d] => { results := [.lit (.bool true)], args := [d] }
  | _ => none }
def bitsTextsRow : OpenClaim := { program := "ytbekgkikgcmmaaadoor", sum := "400b7e9006c1bdb6d0692c7f397106f9ca4aff77ef40d3ed58739db209541316", func := "strata/stratalaw01.BitsTexts", spec := "bitsTexts", inPlace := ["internal/bytealg.CountString", "internal/bytealg.IndexByteString", "internal/bytealg.IndexString", "internal/abi.NoEscape", "internal/bytealg.MakeNoZero"], unfollowed := true, recurses := true, named := ["internal/bytealg.MaxLen", "unicode/utf8.first", "unicode/utf8.acceptRanges"], apart := false, laid := [("unicode/utf8.acceptRanges", laid_unicode_utf8_acceptRanges), ("unicode/utf8.first", laid_unicode_utf8_first)] }
def BitsTextsSaid : Prop := bitsTextsRow.holds Tryd.pinned (OpenSpec.ofChange bitsTextsSpec)

/-- ITS FALSE NEIGHBOUR: 'it returns false'. Refute it at one input. -/
def bitsTextsWrong : ChangeSpec := { name := "bitsTexts", fn := fun _ => fun
  | [d] => { results := [.lit (.bool false)], args := [d] }
  | _ => none }
def BitsTextsWrongFalsely : Prop := bitsTextsRow.holds Tryd.pinned (OpenSpec.ofChange bitsTextsWrong)

/-- 'stratalaw01.BitsGiven': WHATEVER THE INPUT: true; the input reads as it did. -/
def bitsGivenSpec : ChangeSpec := { name := "bitsGiven", fn := fun _ => fun
  | [d] => { results := [.lit (.bool true)], args := [d] }
  | _ => none }
def bitsGivenRow : OpenClaim := { program := "ytbekgkikgcmmaaadoor", sum := "400b7e9006c1bdb6d0692c7f397106f9ca4aff77ef40d3ed58739db209541316", func := "strata/stratalaw01.BitsGiven", spec := "bitsGiven", inPlace := ["internal/bytealg.CountString", "internal/bytealg.IndexByteString", "internal/bytealg.IndexString", "internal/abi.NoEscape", "internal/bytealg.MakeNoZero"], unfollowed := true, recurses := true, named := ["strata/bits.shapes", "internal/bytealg.MaxLen", "unicode/utf8.first", "unicode/utf8.acceptRanges"], apart := false, laid := [("unicode/utf8.acceptRanges", laid_unicode_utf8_acceptRanges), ("strata/bits.shapes", laid_strata_bits_shapes), ("unicode/utf8.first", laid_unicode_utf8_first)] }
def BitsGivenSaid : Prop := bitsGivenRow.holds Tryd.pinned (OpenSpec.ofChange bitsGivenSpec)

/-- ITS FALSE NEIGHBOUR: 'it returns false'. Refute it at one input. -/
def bitsGivenWrong : ChangeSpec := { name := "bitsGiven", fn := fun _ => fun
  | [d] => { results := [.lit (.bool false)], args := [d] }
  | _ => none }
def BitsGivenWrongFalsely : Prop := bitsGivenRow.holds Tryd.pinned (OpenSpec.ofChange bitsGivenWrong)

/-- 'stratalaw01.BitsOneForm': WHATEVER THE INPUT: true; the input reads as it did. -/
def bitsOneFormSpec : ChangeSpec := { name := "bitsOneForm", fn := fun _ => fun
  | [d1, d2, d3] => { results := [.lit (.bool true)], args := [d1, d2, d3] }
  | _ => none }
def bitsOneFormRow : OpenClaim := { program := "ytbekgkikgcmmaaadoor", sum := "400b7e9006c1bdb6d0692c7f397106f9ca4aff77ef40d3ed58739db209541316", func := "strata/stratalaw01.BitsOneForm", spec := "bitsOneForm", inPlace := ["internal/bytealg.CountString", "internal/bytealg.IndexByteString", "internal/bytealg.IndexString", "internal/abi.NoEscape", "internal/bytealg.MakeNoZero"], unfollowed := true, recurses := true, named := ["strata/bits.shapes", "internal/bytealg.MaxLen", "unicode/utf8.first", "unicode/utf8.acceptRanges"], apart := false, laid := [("unicode/utf8.acceptRanges", laid_unicode_utf8_acceptRanges), ("strata/bits.shapes", laid_strata_bits_shapes), ("unicode/utf8.first", laid_unicode_utf8_first)] }
def BitsOneFormSaid : Prop := bitsOneFormRow.holds Tryd.pinned (OpenSpec.ofChange bitsOneFormSpec)

/-- ITS FALSE NEIGHBOUR: 'it returns false'. Refute it at one input. -/
def bitsOneFormWrong : ChangeSpec := { name := "bitsOneForm", fn := fun _ => fun
  | [d1, d2, d3] => { results := [.lit (.bool false)], args := [d1, d2, d3] }
  | _ => none }
def BitsOneFormWrongFalsely : Prop := bitsOneFormRow.holds Tryd.pinned (OpenSpec.ofChange bitsOneFormWrong)

/- THE SECOND FORM. 'bulk': how many values and letters a reading holds, each counted each time it is reached (what is shared counts as often as it is met; a slice's spare places count too). A statement '..UptoSaid' is the law's where the arguments, and the package variables that the reading takes, are together of bulk at most 1048576: NARROWER than '..Said'. Prove '..Said' where nothing that the law and all that it calls make is longer than what came in: it says more and counts as full. Else prove '..UptoSaid'. A law counts once. -/
mutual
def uptoBulk {H : Type} : DataW H → Nat
  | .lit (.string bytes) => bytes.length + 1
  | .lit _ => 1
  | .nil => 1
  | .ptr d => uptoBulk d + 1
  | .slice elems spare => uptoBulkAll elems + uptoBulkAll spare + 1
  | .agg parts => uptoBulkAll parts + 1
  | .iface _ d => uptoBulk d + 1
  | .map entries => uptoBulkEntries entries + 1
  | .held _ => 1
def uptoBulkAll {H : Type} : List (DataW H) → Nat
  | [] => 0
  | d :: r => uptoBulk d + uptoBulkAll r
def uptoBulkEntries {H : Type} : List (Lit × DataW H) → Nat
  | [] => 0
  | x :: r => uptoBulkEntry x + uptoBulkEntries r
def uptoBulkEntry {H : Type} : Lit × DataW H → Nat
  | (.string bytes, d) => bytes.length + uptoBulk d + 1
  | (_, d) => uptoBulk d + 1
 end
def uptoSmall : (H : Type) → List (DataW H) → Bool := fun _ ds => decide (uptoBulkAll ds ≤ 1048576)
def OpenSpec.upto (s : _root_.Go.ChangeSpec) : _root_.Go.OpenSpec := { _root_.Go.OpenSpec.ofChange s with cond := some uptoSmall }

/-- 'stratalaw01.BitsKeys', WHERE WHAT IT READS IS OF BULK AT MOST 1048576: true; the input reads as it did. -/
def bitsKeysUptoRow : OpenClaim := { program := "ytbekgkikgcmmaaadoor", sum := "400b7e9006c1bdb6d0692c7f397106f9ca4aff77ef40d3ed58739db209541316", func := "strata/stratalaw01.BitsKeys", spec := "bitsKeys", inPlace := ["internal/bytealg.CountString", "internal/bytealg.IndexByteString", "internal/bytealg.IndexString", "internal/abi.NoEscape", "internal/bytealg.MakeNoZero"], unfollowed := true, recurses := true, named := ["strata/bits.shapes", "internal/bytealg.MaxLen", "unicode/utf8.first", "unicode/utf8.acceptRanges"], apart := false, laid := [("unicode/utf8.acceptRanges", laid_unicode_utf8_acceptRanges), ("strata/bits.shapes", laid_strata_bits_shapes), ("unicode/utf8.first", laid_unicode_utf8_first)], narrowed := true }
def BitsKeysUptoSaid : Prop := bitsKeysUptoRow.holds Tryd.pinned (OpenSpec.upto bitsKeysSpec)

/-- 'stratalaw01.BitsOrder', WHERE WHAT IT READS IS OF BULK AT MOST 1048576: true; the input reads as it did. -/
def bitsOrderUptoRow : OpenClaim := { program := "ytbekgkikgcmmaaadoor", sum := "400b7e9006c1bdb6d0692c7f397106f9ca4aff77ef40d3ed58739db209541316", func := "strata/stratalaw01.BitsOrder", spec := "bitsOrder", inPlace := ["internal/bytealg.CountString", "internal/bytealg.IndexByteString", "internal/bytealg.IndexString", "internal/abi.NoEscape", "internal/bytealg.MakeNoZero", "internal/bytealg.abigen_runtime_cmpstring"], unfollowed := true, recurses := true, named := ["strata/bits.shapes", "internal/bytealg.MaxLen", "unicode/utf8.first", "unicode/utf8.acceptRanges"], apart := false, laid := [("unicode/utf8.acceptRanges", laid_unicode_utf8_acceptRanges), ("strata/bits.shapes", laid_strata_bits_shapes), ("unicode/utf8.first", laid_unicode_utf8_first)], narrowed := true }
def BitsOrderUptoSaid : Prop := bitsOrderUptoRow.holds Tryd.pinned (OpenSpec.upto bitsOrderSpec)

/-- 'stratalaw01.BitsTexts', WHERE WHAT IT READS IS OF BULK AT MOST 1048576: true; the input reads as it did. -/
def bitsTextsUptoRow : OpenClaim := { program := "ytbekgkikgcmmaaadoor", sum := "400b7e9006c1bdb6d0692c7f397106f9ca4aff77ef40d3ed58739db209541316", func := "strata/stratalaw01.BitsTexts", spec := "bitsTexts", inPlace := ["internal/bytealg.CountString", "internal/bytealg.IndexByteString", "internal/bytealg.IndexString", "internal/abi.NoEscape", "internal/bytealg.MakeNoZero"], unfollowed := true, recurses := true, named := ["internal/bytealg.MaxLen", "unicode/utf8.first", "unicode/utf8.acceptRanges"], apart := false, laid := [("unicode/utf8.acceptRanges", laid_unicode_utf8_acceptRanges), ("unicode/utf8.first", laid_unicode_utf8_first)], narrowed := true }
def BitsTextsUptoSaid : Prop := bitsTextsUptoRow.holds Tryd.pinned (OpenSpec.upto bitsTextsSpec)

/-- 'stratalaw01.BitsGiven', WHERE WHAT IT READS IS OF BULK AT MOST 1048576: true; the input reads as it did. -/
def bitsGivenUptoRow : OpenClaim := { program := "ytbekgkikgcmmaaadoor", sum := "400b7e9006c1bdb6d0692c7f397106f9ca4aff77ef40d3ed58739db209541316", func := "strata/stratalaw01.BitsGiven", spec := "bitsGiven", inPlace := ["internal/bytealg.CountString", "internal/bytealg.IndexByteString", "internal/bytealg.IndexString", "internal/abi.NoEscape", "internal/bytealg.MakeNoZero"], unfollowed := true, recurses := true, named := ["strata/bits.shapes", "internal/bytealg.MaxLen", "unicode/utf8.first", "unicode/utf8.acceptRanges"], apart := false, laid := [("unicode/utf8.acceptRanges", laid_unicode_utf8_acceptRanges), ("strata/bits.shapes", laid_strata_bits_shapes), ("unicode/utf8.first", laid_unicode_utf8_first)], narrowed := true }
def BitsGivenUptoSaid : Prop := bitsGivenUptoRow.holds Tryd.pinned (OpenSpec.upto bitsGivenSpec)

/-- 'stratalaw01.BitsOneForm', WHERE WHAT IT READS IS OF BULK AT MOST 1048576: true; the input reads as it did. -/
def bitsOneFormUptoRow : OpenClaim := { program := "ytbekgkikgcmmaaadoor", sum := "400b7e9006c1bdb6d0692c7f397106f9ca4aff77ef40d3ed58739db209541316", func := "strata/stratalaw01.BitsOneForm", spec := "bitsOneForm", inPlace := ["internal/bytealg.CountString", "internal/bytealg.IndexByteString", "internal/bytealg.IndexString", "internal/abi.NoEscape", "internal/bytealg.MakeNoZero"], unfollowed := true, recurses := true, named := ["strata/bits.shapes", "internal/bytealg.MaxLen", "unicode/utf8.first", "unicode/utf8.acceptRanges"], apart := false, laid := [("unicode/utf8.acceptRanges", laid_unicode_utf8_acceptRanges), ("strata/bits.shapes", laid_strata_bits_shapes), ("unicode/utf8.first", laid_unicode_utf8_first)], narrowed := true }
def BitsOneFormUptoSaid : Prop := bitsOneFormUptoRow.holds Tryd.pinned (OpenSpec.upto bitsOneFormSpec)

end Rows
end Go.Proofs.YtbekgkikgcmmaaaDoor
