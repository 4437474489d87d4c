/-
  NARROWER THAN 'FOR EVERY INPUT', by the rows' own cells (each row's printed sentence says how): BitsTold: laid · BitsHashes: laid · BitsSums: laid · BitsJoined: laid · BitsKeys: laid · BitsOrder: laid · BitsTexts: laid · BitsGiven: laid · BitsOneForm: laid.
  DERIVED. THE GIVEN ROWS OF THIS SEAT. 9 by the template 'for every input the law returns true; each argument reads behind the call as it read before'; 0 by the template 'total and deterministic' (their statements: YtnanepgcaefhcaaDoorTotals.lean).
  GIVEN WITH THE SEED: the statements are not yours to turn. If you find one false, say at which input.
  Laid BY PROGRAM, IN A SANDBOX (cutbox-rows.mjs): the forced cells as the released guide's own fill.sh prints them over the translation 1f4a4989dfb285e3… (all of the seat's roots in one cut). By AI agents, Wed Nov 11 2026. No macro, syntax, notation, axiom, sorry.
-/
import Derived.Test.YtnanepgcaefhcaaDoorChecked
import GoSem.PinnedTables
import GoSem.Claim
import GoSem.ClaimJoined
import GoSem.ClaimMapViews
import Derived.JoinedTies
import Derived.KernelRfl
namespace Go.Proofs.YtnanepgcaefhcaaDoor
/- THE CELL 'sum', in the pinned program and in every row, IS THE sha256 OF THE DUMP (.gsa) THAT YtnanepgcaefhcaaDoorProg.lean LOADS. Nothing in Lean hashes anything: it is a label: what it is worth is what the hold of that sum in a sandbox is worth. -/
noncomputable def Tryd.pinned : Pinned := { name := "ytnanepgcaefhcaadoor", sum := "1f4a4989dfb285e33931173c290109b9046cbd21caa2b90aac4f8d36d9aec41f", checked := Tryd.checked }
namespace Rows
def none {H : Type} : Left H := { results := [], args := [] }

/- WHAT THE LISTED PACKAGE-LEVEL VARIABLES READ AS WHEN THE CALL BEGINS. Each datum BY PROGRAM (the guide's laid-datum.mjs) off the statement by which the dump's own 'gosem.cut.vars' lays the variable. In a bare row this is a premise. The card (YtnanepgcaefhcaaDoorCards.lean) ties it to the program's text. -/
def laid_strata_bits_halves {H : Type} : DataW H := .agg [.lit (.int .u32 0), .lit (.int .u32 274646895), .lit (.int .u32 549293790), .lit (.int .u32 820201905), .lit (.int .u32 1098587580), .lit (.int .u32 1361435347), .lit (.int .u32 1640403810), .lit (.int .u32 1905808397), .lit (.int .u32 2197175160), .lit (.int .u32 2460548119), .lit (.int .u32 2722870694), .lit (.int .u32 2987750089), .lit (.int .u32 3280807620), .lit (.int .u32 3553878443), .lit (.int .u32 3811616794), .lit (.int .u32 4084100981)]
def laid_math_bits_deBruijn32tab {H : Type} : DataW H := .agg [.lit (.int .u8 0), .lit (.int .u8 1), .lit (.int .u8 28), .lit (.int .u8 2), .lit (.int .u8 29), .lit (.int .u8 14), .lit (.int .u8 24), .lit (.int .u8 3), .lit (.int .u8 30), .lit (.int .u8 22), .lit (.int .u8 20), .lit (.int .u8 15), .lit (.int .u8 25), .lit (.int .u8 17), .lit (.int .u8 4), .lit (.int .u8 8), .lit (.int .u8 31), .lit (.int .u8 27), .lit (.int .u8 13), .lit (.int .u8 23), .lit (.int .u8 21), .lit (.int .u8 19), .lit (.int .u8 16), .lit (.int .u8 7), .lit (.int .u8 26), .lit (.int .u8 12), .lit (.int .u8 18), .lit (.int .u8 6), .lit (.int .u8 11), .lit (.int .u8 5), .lit (.int .u8 10), .lit (.int .u8 9)]
def laid_unicode_utf8_acceptRanges {H : Type} : DataW H := .agg [.agg [.lit (.int .u8 128), .lit (.int .u8 191)], .agg [.lit (.int .u8 160), .lit (.int .u8 191)], .agg [.lit (.int .u8 128), .lit (.int .u8 159)], .agg [.lit (.int .u8 144), .lit (.int .u8 191)], .agg [.lit (.int .u8 128), .lit (.int .u8 143)], .agg [.lit (.int .u8 0), .lit (.int .u8 0)], .agg [.lit (.int .u8 0), .lit (.int .u8 0)], .agg [.lit (.int .u8 0), .lit (.int .u8 0)], .agg [.lit (.int .u8 0), .lit (.int .u8 0)], .agg [.lit (.int .u8 0), .lit (.int .u8 0)], .agg [.lit (.int .u8 0), .lit (.int .u8 0)], .agg [.lit (.int .u8 0), .lit (.int .u8 0)], .agg [.lit (.int .u8 0), .lit (.int .u8 0)], .agg [.lit (.int .u8 0), .lit (.int .u8 0)], .agg [.lit (.int .u8 0), .lit (.int .u8 0)], .agg [.lit (.int .u8 0), .lit (.int .u8 0)]]
def laid_strata_bits_shapes {H : Type} : DataW H := .agg [.agg [.lit (.int .u64 1), .lit (.bool false)], .agg [.lit (.int .u64 2), .lit (.bool false)], .agg [.lit (.int .u64 0), .lit (.bool false)], .agg [.lit (.int .u64 1), .lit (.bool true)]]
/-- One of Go's own tables, pinned by name: the form's constant. -/
def laid_unicode_utf8_first : DataW Unit := Go.Pinned.utf8First

/-- 'stratalaw01.BitsTold': WHATEVER THE INPUT: true; the input reads as it did. -/
def bitsToldSpec : ChangeSpec := { name := "bitsTold", fn := fun _ => fun
  | [d1, d2, d3, d4, d5, d6] => { results := [.lit (.bool true)], args := [d1, d2, d3, d4, d5, d6] }
  | _ => none }
def bitsToldRow : OpenClaim := { program := "ytnanepgcaefhcaadoor", sum := "1f4a4989dfb285e33931173c290109b9046cbd21caa2b90aac4f8d36d9aec41f", func := "strata/stratalaw01.BitsTold", spec := "bitsTold", named := ["strata/bits.halves"], apart := false, laid := [("strata/bits.halves", laid_strata_bits_halves)] }
def BitsToldSaid : Prop := bitsToldRow.holds Tryd.pinned (OpenSpec.ofChange bitsToldSpec)

/-- ITS FALSE NEIGHBOUR: 'it returns false'. Refute it at one input. -/
def bitsToldWrong : ChangeSpec := { name := "bitsTold", fn := fun _ => fun
  | [d1, d2, d3, d4, d5, d6] => { results := [.lit (.bool false)], args := [d1, d2, d3, d4, d5, d6] }
  | _ => none }
def BitsToldWrongFalsely : Prop := bitsToldRow.holds Tryd.pinned (OpenSpec.ofChange bitsToldWrong)

/-- 'stratalaw01.BitsHashes': WHATEVER THE INPUT: true; the input reads as it did. -/
def bitsHashesSpec : ChangeSpec := { name := "bitsHashes", fn := fun _ => fun
  | [d1, d2] => { results := [.lit (.bool true)], args := [d1, d2] }
  | _ => none }
def bitsHashesRow : OpenClaim := { program := "ytnanepgcaefhcaadoor", sum := "1f4a4989dfb285e33931173c290109b9046cbd21caa2b90aac4f8d36d9aec41f", func := "strata/stratalaw01.BitsHashes", spec := "bitsHashes", named := ["math/bits.deBruijn32tab"], apart := false, laid := [("math/bits.deBruijn32tab", laid_math_bits_deBruijn32tab)] }
def BitsHashesSaid : Prop := bitsHashesRow.holds Tryd.pinned (OpenSpec.ofChange bitsHashesSpec)

/-- ITS FALSE NEIGHBOUR: 'it returns false'. Refute it at one input. -/
def bitsHashesWrong : ChangeSpec := { name := "bitsHashes", fn := fun _ => fun
  | [d1, d2] => { results := [.lit (.bool false)], args := [d1, d2] }
  | _ => none }
def BitsHashesWrongFalsely : Prop := bitsHashesRow.holds Tryd.pinned (OpenSpec.ofChange bitsHashesWrong)

/-- 'stratalaw01.BitsSums': WHATEVER THE INPUT: true; the input reads as it did. -/
def bitsSumsSpec : ChangeSpec := { name := "bitsSums", fn := fun _ => fun
  | [d1, d2, d3, d4, d5] => { results := [.lit (.bool true)], args := [d1, d2, d3, d4, d5] }
  | _ => none }
def bitsSumsRow : OpenClaim := { program := "ytnanepgcaefhcaadoor", sum := "1f4a4989dfb285e33931173c290109b9046cbd21caa2b90aac4f8d36d9aec41f", func := "strata/stratalaw01.BitsSums", spec := "bitsSums", inPlace := ["sync/atomic.LoadUint32", "(*internal/sync.Mutex).Lock", "internal/race.Disable", "sync/atomic.CompareAndSwapInt32", "internal/race.Enable", "internal/race.Acquire", "(*internal/sync.Mutex).lockSlow", "internal/sync.runtime_canSpin", "internal/sync.runtime_doSpin", "internal/sync.throw", "internal/sync.runtime_nanotime", "internal/sync.runtime_SemacquireMutex", "sync/atomic.AddInt32", "(*internal/sync.Mutex).Unlock", "internal/race.ReleaseMerge", "(*internal/sync.Mutex).unlockSlow", "internal/sync.fatal", "internal/sync.runtime_Semrelease", "sync/atomic.StoreUint32"], unfollowed := true, recurses := true, named := ["strata/bits.halves"], apart := false, laid := [("strata/bits.halves", laid_strata_bits_halves)] }
def BitsSumsSaid : Prop := bitsSumsRow.holds Tryd.pinned (OpenSpec.ofChange bitsSumsSpec)

/-- ITS FALSE NEIGHBOUR: 'it returns false'. Refute it at one input. -/
def bitsSumsWrong : ChangeSpec := { name := "bitsSums", fn := fun _ => fun
  | [d1, d2, d3, d4, d5] => { results := [.lit (.bool false)], args := [d1, d2, d3, d4, d5] }
  | _ => none }
def BitsSumsWrongFalsely : Prop := bitsSumsRow.holds Tryd.pinned (OpenSpec.ofChange bitsSumsWrong)

/-- 'stratalaw01.BitsJoined': WHATEVER THE INPUT: true; the input reads as it did. -/
def bitsJoinedSpec : ChangeSpec := { name := "bitsJoined", fn := fun _ => fun
  | [d1, d2, d3] => { results := [.lit (.bool true)], args := [d1, d2, d3] }
  | _ => none }
def bitsJoinedRow : OpenClaim := { program := "ytnanepgcaefhcaadoor", sum := "1f4a4989dfb285e33931173c290109b9046cbd21caa2b90aac4f8d36d9aec41f", func := "strata/stratalaw01.BitsJoined", spec := "bitsJoined", inPlace := ["sync/atomic.LoadUint32", "(*internal/sync.Mutex).Lock", "internal/race.Disable", "sync/atomic.CompareAndSwapInt32", "internal/race.Enable", "internal/race.Acquire", "(*internal/sync.Mutex).lockSlow", "internal/sync.runtime_canSpin", "internal/sync.runtime_doSpin", "internal/sync.throw", "internal/sync.runtime_nanotime", "internal/sync.runtime_SemacquireMutex", "sync/atomic.AddInt32", "(*internal/sync.Mutex).Unlock", "internal/race.ReleaseMerge", "(*internal/sync.Mutex).unlockSlow", "internal/sync.fatal", "internal/sync.runtime_Semrelease", "sync/atomic.StoreUint32"], unfollowed := true, recurses := true, named := ["strata/bits.halves"], apart := false, laid := [("strata/bits.halves", laid_strata_bits_halves)] }
def BitsJoinedSaid : Prop := bitsJoinedRow.holds Tryd.pinned (OpenSpec.ofChange bitsJoinedSpec)

/-- ITS FALSE NEIGHBOUR: 'it returns false'. Refute it at one input. -/
def bitsJoinedWrong : ChangeSpec := { name := "bitsJoined", fn := fun _ => fun
  | [d1, d2, d3] => { results := [.lit (.bool false)], args := [d1, d2, d3] }
  | _ => none }
def BitsJoinedWrongFalsely : Prop := bitsJoinedRow.holds Tryd.pinned (OpenSpec.ofChange bitsJoinedWrong)

/-- 'stratalaw01.BitsKeys': WHATEVER THE INPUT: true; the input reads as it did. -/
def bitsKeysSpec : ChangeSpec := { name := "bitsKeys", fn := fun _ => fun
  | [d] => { results := [.lit (.bool true)], args := [d] }
  | _ => none }
def bitsKeysRow : OpenClaim := { program := "ytnanepgcaefhcaadoor", sum := "1f4a4989dfb285e33931173c290109b9046cbd21caa2b90aac4f8d36d9aec41f", func := "strata/stratalaw01.BitsKeys", spec := "bitsKeys", inPlace := ["internal/bytealg.CountString", "internal/bytealg.IndexByteString", "internal/bytealg.IndexString", "internal/abi.NoEscape", "internal/bytealg.MakeNoZero"], unfollowed := true, recurses := true, named := ["strata/bits.shapes", "internal/bytealg.MaxLen", "unicode/utf8.first", "unicode/utf8.acceptRanges"], apart := false, laid := [("unicode/utf8.acceptRanges", laid_unicode_utf8_acceptRanges), ("strata/bits.shapes", laid_strata_bits_shapes), ("unicode/utf8.first", laid_unicode_utf8_first)] }
def BitsKeysSaid : Prop := bitsKeysRow.holds Tryd.pinned (OpenSpec.ofChange bitsKeysSpec)

/-- ITS FALSE NEIGHBOUR: 'it returns false'. Refute it at one input. -/
def bitsKeysWrong : ChangeSpec := { name := "bitsKeys", fn := fun _ => fun
  | [d] => { results := [.lit (.bool false)], args := [d] }
  | _ => none }
def BitsKeysWrongFalsely : Prop := bitsKeysRow.holds Tryd.pinned (OpenSpec.ofChange bitsKeysWrong)

/-- 'stratalaw01.BitsOrder': WHATEVER THE INPUT: true; the input reads as it did. -/
def bitsOrderSpec : ChangeSpec := { name := "bitsOrder", fn := fun _ => fun
  | [d1, d2] => { results := [.lit (.bool true)], args := [d1, d2] }
  | _ => none }
def bitsOrderRow : OpenClaim := { program := "ytnanepgcaefhcaadoor", sum := "1f4a4989dfb285e33931173c290109b9046cbd21caa2b90aac4f8d36d9aec41f", func := "strata/stratalaw01.BitsOrder", spec := "bitsOrder", inPlace := ["internal/bytealg.CountString", "internal/bytealg.IndexByteString", "internal/bytealg.IndexString", "internal/abi.NoEscape", "internal/bytealg.MakeNoZero", "internal/bytealg.abigen_runtime_cmpstring"], unfollowed := true, recurses := true, named := ["strata/bits.shapes", "internal/bytealg.MaxLen", "unicode/utf8.first", "unicode/utf8.acceptRanges"], apart := false, laid := [("unicode/utf8.acceptRanges", laid_unicode_utf8_acceptRanges), ("strata/bits.shapes", laid_strata_bits_shapes), ("unicode/utf8.first", laid_unicode_utf8_first)] }
def BitsOrderSaid : Prop := bitsOrderRow.holds Tryd.pinned (OpenSpec.ofChange bitsOrderSpec)

/-- ITS FALSE NEIGHBOUR: 'it returns false'. Refute it at one input. -/
def bitsOrderWrong : ChangeSpec := { name := "bitsOrder", fn := fun _ => fun
  | [d1, d2] => { results := [.lit (.bool false)], args := [d1, d2] }
  | _ => none }
def BitsOrderWrongFalsely : Prop := bitsOrderRow.holds Tryd.pinned (OpenSpec.ofChange bitsOrderWrong)

/-- 'stratalaw01.BitsTexts': WHATEVER THE INPUT: true; the input reads as it did. -/
def bitsTextsSpec : ChangeSpec := { name := "bitsTexts", fn := fun _ => fun
  | [d] => { results := [.lit (.bool true)], args := [d] }
  | _ => none }
def bitsTextsRow : OpenClaim := { program := "ytnanepgcaefhcaadoor", sum := "1f4a4989dfb285e33931173c290109b9046cbd21caa2b90aac4f8d36d9aec41f", func := "strata/stratalaw01.BitsTexts", spec := "bitsTexts", inPlace := ["internal/bytealg.CountString", "internal/bytealg.IndexByteString", "internal/bytealg.IndexString", "internal/abi.NoEscape", "internal/bytealg.MakeNoZero"], unfollowed := true, recurses := true, named := ["internal/bytealg.MaxLen", "unicode/utf8.first", "unicode/utf8.acceptRanges"], apart := false, laid := [("unicode/utf8.acceptRanges", laid_unicode_utf8_acceptRanges), ("unicode/utf8.first", laid_unicode_utf8_first)] }
def BitsTextsSaid : Prop := bitsTextsRow.holds Tryd.pinned (OpenSpec.ofChange bitsTextsSpec)

/-- ITS FALSE NEIGHBOUR: 'it returns false'. Refute it at one input. -/
def bitsTextsWrong : ChangeSpec := { name := "bitsTexts", fn := fun _ => fun
  | [d] => { results := [.lit (.bool false)], args := [d] }
  | _ => none }
def BitsTextsWrongFalsely : Prop := bitsTextsRow.holds Tryd.pinned (OpenSpec.ofChange bitsTextsWrong)

/-- 'stratalaw01.BitsGiven': WHATEVER THE INPUT: true; the input reads as it did. -/
def bitsGivenSpec : ChangeSpec := { name := "bitsGiven", fn := fun _ => fun
  | [d] => { results := [.lit (.bool true)], args := [d] }
  | _ => none }
def bitsGivenRow : OpenClaim := { program := "ytnanepgcaefhcaadoor", sum := "1f4a4989dfb285e33931173c290109b9046cbd21caa2b90aac4f8d36d9aec41f", func := "strata/stratalaw01.BitsGiven", spec := "bitsGiven", inPlace := ["internal/bytealg.CountString", "internal/bytealg.IndexByteString", "internal/bytealg.IndexString", "internal/abi.NoEscape", "internal/bytealg.MakeNoZero"], unfollowed := true, recurses := true, named := ["strata/bits.shapes", "internal/bytealg.MaxLen", "unicode/utf8.first", "unicode/utf8.acceptRanges"], apart := false, laid := [("unicode/utf8.acceptRanges", laid_unicode_utf8_acceptRanges), ("strata/bits.shapes", laid_strata_bits_shapes), ("unicode/utf8.first", laid_unicode_utf8_first)] }
def BitsGivenSaid : Prop := bitsGivenRow.holds Tryd.pinned (OpenSpec.ofChange bitsGivenSpec)

/-- ITS FALSE NEIGHBOUR: 'it returns false'. Refute it at one input. -/
def bitsGivenWrong : ChangeSpec := { name := "bitsGiven", fn := fun _ => fun
  | [d] => { results := [.lit (.bool false)], args := [d] }
  | _ => none }
def BitsGivenWrongFalsely : Prop := bitsGivenRow.holds Tryd.pinned (OpenSpec.ofChange bitsGivenWrong)

/-- 'stratalaw01.BitsOneForm': WHATEVER THE INPUT: true; the input reads as it did. -/
def bitsOneFormSpec : ChangeSpec := { name := "bitsOneForm", fn := fun _ => fun
  | [d1, d2, d3] => { results := [.lit (.bool true)], args := [d1, d2, d3] }
  | _ => none }
def bitsOneFormRow : OpenClaim := { program := "ytnanepgcaefhcaadoor", sum := "1f4a4989dfb285e33931173c290109b9046cbd21caa2b90aac4f8d36d9aec41f", func := "strata/stratalaw01.BitsOneForm", spec := "bitsOneForm", inPlace := ["internal/bytealg.CountString", "internal/bytealg.IndexByteString", "internal/bytealg.IndexString", "internal/abi.NoEscape", "internal/bytealg.MakeNoZero"], unfollowed := true, recurses := true, named := ["strata/bits.shapes", "internal/bytealg.MaxLen", "unicode/utf8.first", "unicode/utf8.acceptRanges"], apart := false, laid := [("unicode/utf8.acceptRanges", laid_unicode_utf8_acceptRanges), ("strata/bits.shapes", laid_strata_bits_shapes), ("unicode/utf8.first", laid_unicode_utf8_first)] }
def BitsOneFormSaid : Prop := bitsOneFormRow.holds Tryd.pinned (OpenSpec.ofChange bitsOneFormSpec)

/-- ITS FALSE NEIGHBOUR: 'it returns false'. Refute it at one input. -/
def bitsOneFormWrong : ChangeSpec := { name := "bitsOneForm", fn := fun _ => fun
  | [d1, d2, d3] => { results := [.lit (.bool false)], args := [d1, d2, d3] }
  | _ => none }
def BitsOneFormWrongFalsely : Prop := bitsOneFormRow.holds Tryd.pinned (OpenSpec.ofChange bitsOneFormWrong)

/- THE SECOND FORM. 'bulk': how many values and letters a reading holds, each counted each time it is reached (what is shared counts as often as it is met; a slice's spare places count too). A statement '..UptoSaid' is the law's where the arguments, and the package variables that the reading takes, are together of bulk at most 1048576: NARROWER than '..Said'. Prove '..Said' where nothing that the law and all that it calls make is longer than what came in: it says more and counts as full. Else prove '..UptoSaid'. A law counts once. -/
mutual
def uptoBulk {H : Type} : DataW H → Nat
  | .lit (.string bytes) => bytes.length + 1
  | .lit _ => 1
  | .nil => 1
  | .ptr d => uptoBulk d + 1
  | .slice elems spare => uptoBulkAll elems + uptoBulkAll spare + 1
  | .agg parts => uptoBulkAll parts + 1
  | .iface _ d => uptoBulk d + 1
  | .map entries => uptoBulkEntries entries + 1
  | .held _ => 1
def uptoBulkAll {H : Type} : List (DataW H) → Nat
  | [] => 0
  | d :: r => uptoBulk d + uptoBulkAll r
def uptoBulkEntries {H : Type} : List (Lit × DataW H) → Nat
  | [] => 0
  | x :: r => uptoBulkEntry x + uptoBulkEntries r
def uptoBulkEntry {H : Type} : Lit × DataW H → Nat
  | (.string bytes, d) => bytes.length + uptoBulk d + 1
  | (_, d) => uptoBulk d + 1
 end
def uptoSmall : (H : Type) → List (DataW H) → Bool := fun _ ds => decide (uptoBulkAll ds ≤ 1048576)
def OpenSpec.upto (s : _root_.Go.ChangeSpec) : _root_.Go.OpenSpec := { _root_.Go.OpenSpec.ofChange s with cond := some uptoSmall }

/-- 'stratalaw01.BitsTold', WHERE WHAT IT READS IS OF BULK AT MOST 1048576: true; the input reads as it did. -/
def bitsToldUptoRow : OpenClaim := { program := "ytnanepgcaefhcaadoor", sum := "1f4a4989dfb285e33931173c290109b9046cbd21caa2b90aac4f8d36d9aec41f", func := "strata/stratalaw01.BitsTold", spec := "bitsTold", named := ["strata/bits.halves"], apart := false, laid := [("strata/bits.halves", laid_strata_bits_halves)], narrowed := true }
def BitsToldUptoSaid : Prop := bitsToldUptoRow.holds Tryd.pinned (OpenSpec.upto bitsToldSpec)

/-- 'stratalaw01.BitsHashes', WHERE WHAT IT READS IS OF BULK AT MOST 1048576: true; the input reads as it did. -/
def bitsHashesUptoRow : OpenClaim := { program := "ytnanepgcaefhcaadoor", sum := "1f4a4989dfb285e33931173c290109b9046cbd21caa2b90aac4f8d36d9aec41f", func := "strata/stratalaw01.BitsHashes", spec := "bitsHashes", named := ["math/bits.deBruijn32tab"], apart := false, laid := [("math/bits.deBruijn32tab", laid_math_bits_deBruijn32tab)], narrowed := true }
def BitsHashesUptoSaid : Prop := bitsHashesUptoRow.holds Tryd.pinned (OpenSpec.upto bitsHashesSpec)

/-- 'stratalaw01.BitsSums', WHERE WHAT IT READS IS OF BULK AT MOST 1048576: true; the input reads as it did. -/
def bitsSumsUptoRow : OpenClaim := { program := "ytnanepgcaefhcaadoor", sum := "1f4a4989dfb285e33931173c290109b9046cbd21caa2b90aac4f8d36d9aec41f", func := "strata/stratalaw01.BitsSums", spec := "bitsSums", inPlace := ["sync/atomic.LoadUint32", "(*internal/sync.Mutex).Lock", "internal/race.Disable", "sync/atomic.CompareAndSwapInt32", "internal/race.Enable", "internal/race.Acquire", "(*internal/sync.Mutex).lockSlow", "internal/sync.runtime_canSpin", "internal/sync.runtime_doSpin", "internal/sync.throw", "internal/sync.runtime_nanotime", "internal/sync.runtime_SemacquireMutex", "sync/atomic.AddInt32", "(*internal/sync.Mutex).Unlock", "internal/race.ReleaseMerge", "(*internal/sync.Mutex).unlockSlow", "internal/sync.fatal", "internal/sync.runtime_Semrelease", "sync/atomic.StoreUint32"], unfollowed := true, recurses := true, named := ["strata/bits.halves"], apart := false, laid := [("strata/bits.halves", laid_strata_bits_halves)], narrowed := true }
def BitsSumsUptoSaid : Prop := bitsSumsUptoRow.holds Tryd.pinned (OpenSpec.upto bitsSumsSpec)

/-- 'stratalaw01.BitsJoined', WHERE WHAT IT READS IS OF BULK AT MOST 1048576: true; the input reads as it did. -/
def bitsJoinedUptoRow : OpenClaim := { program := "ytnanepgcaefhcaadoor", sum := "1f4a4989dfb285e33931173c290109b9046cbd21caa2b90aac4f8d36d9aec41f", func := "strata/stratalaw01.BitsJoined", spec := "bitsJoined", inPlace := ["sync/atomic.LoadUint32", "(*internal/sync.Mutex).Lock", "internal/race.Disable", "sync/atomic.CompareAndSwapInt32", "internal/race.Enable", "internal/race.Acquire", "(*internal/sync.Mutex).lockSlow", "internal/sync.runtime_canSpin", "internal/sync.runtime_doSpin", "internal/sync.throw", "internal/sync.runtime_nanotime", "internal/sync.runtime_SemacquireMutex", "sync/atomic.AddInt32", "(*internal/sync.Mutex).Unlock", "internal/race.ReleaseMerge", "(*internal/sync.Mutex).unlockSlow", "internal/sync.fatal", "internal/sync.runtime_Semrelease", "sync/atomic.StoreUint32"], unfollowed := true, recurses := true, named := ["strata/bits.halves"], apart := false, laid := [("strata/bits.halves", laid_strata_bits_halves)], narrowed := true }
def BitsJoinedUptoSaid : Prop := bitsJoinedUptoRow.holds Tryd.pinned (OpenSpec.upto bitsJoinedSpec)

/-- 'stratalaw01.BitsKeys', WHERE WHAT IT READS IS OF BULK AT MOST 1048576: true; the input reads as it did. -/
def bitsKeysUptoRow : OpenClaim := { program := "ytnanepgcaefhcaadoor", sum := "1f4a4989dfb285e33931173c290109b9046cbd21caa2b90aac4f8d36d9aec41f", func := "strata/stratalaw01.BitsKeys", spec := "bitsKeys", inPlace := ["internal/bytealg.CountString", "internal/bytealg.IndexByteString", "internal/bytealg.IndexString", "internal/abi.NoEscape", "internal/bytealg.MakeNoZero"], unfollowed := true, recurses := true, named := ["strata/bits.shapes", "internal/bytealg.MaxLen", "unicode/utf8.first", "unicode/utf8.acceptRanges"], apart := false, laid := [("unicode/utf8.acceptRanges", laid_unicode_utf8_acceptRanges), ("strata/bits.shapes", laid_strata_bits_shapes), ("unicode/utf8.first", laid_unicode_utf8_first)], narrowed := true }
def BitsKeysUptoSaid : Prop := bitsKeysUptoRow.holds Tryd.pinned (OpenSpec.upto bitsKeysSpec)

/-- 'stratalaw01.BitsOrder', WHERE WHAT IT READS IS OF BULK AT MOST 1048576: true; the input reads as it did. -/
def bitsOrderUptoRow : OpenClaim := { program := "ytnanepgcaefhcaadoor", sum := "1f4a4989dfb285e33931173c290109b9046cbd21caa2b90aac4f8d36d9aec41f", func := "strata/stratalaw01.BitsOrder", spec := "bitsOrder", inPlace := ["internal/bytealg.CountString", "internal/bytealg.IndexByteString", "internal/bytealg.IndexString", "internal/abi.NoEscape", "internal/bytealg.MakeNoZero", "internal/bytealg.abigen_runtime_cmpstring"], unfollowed := true, recurses := true, named := ["strata/bits.shapes", "internal/bytealg.MaxLen", "unicode/utf8.first", "unicode/utf8.acceptRanges"], apart := false, laid := [("unicode/utf8.acceptRanges", laid_unicode_utf8_acceptRanges), ("strata/bits.shapes", laid_strata_bits_shapes), ("unicode/utf8.first", laid_unicode_utf8_first)], narrowed := true }
def BitsOrderUptoSaid : Prop := bitsOrderUptoRow.holds Tryd.pinned (OpenSpec.upto bitsOrderSpec)

/-- 'stratalaw01.BitsTexts', WHERE WHAT IT READS IS OF BULK AT MOST 1048576: true; the input reads as it did. -/
def bitsTextsUptoRow : OpenClaim := { program := "ytnanepgcaefhcaadoor", sum := "1f4a4989dfb285e33931173c290109b9046cbd21caa2b90aac4f8d36d9aec41f", func := "strata/stratalaw01.BitsTexts", spec := "bitsTexts", inPlace := ["internal/bytealg.CountString", "internal/bytealg.IndexByteString", "internal/bytealg.IndexString", "internal/abi.NoEscape", "internal/bytealg.MakeNoZero"], unfollowed := true, recurses := true, named := ["internal/bytealg.MaxLen", "unicode/utf8.first", "unicode/utf8.acceptRanges"], apart := false, laid := [("unicode/utf8.acceptRanges", laid_unicode_utf8_acceptRanges), ("unicode/utf8.first", laid_unicode_utf8_first)], narrowed := true }
def BitsTextsUptoSaid : Prop := bitsTextsUptoRow.holds Tryd.pinned (OpenSpec.upto bitsTextsSpec)

/-- 'stratalaw01.BitsGiven', WHERE WHAT IT READS IS OF BULK AT MOST 1048576: true; the input reads as it did. -/
def bitsGivenUptoRow : OpenClaim := { program := "ytnanepgcaefhcaadoor", sum := "1f4a4989dfb285e33931173c290109b9046cbd21caa2b90aac4f8d36d9aec41f", func := "strata/stratalaw01.BitsGiven", spec := "bitsGiven", inPlace := ["internal/bytealg.CountString", "internal/bytealg.IndexByteString", "internal/bytealg.IndexString", "internal/abi.NoEscape", "internal/bytealg.MakeNoZero"], unfollowed := true, recurses := true, named := ["strata/bits.shapes", "internal/bytealg.MaxLen", "unicode/utf8.first", "unicode/utf8.acceptRanges"], apart := false, laid := [("unicode/utf8.acceptRanges", laid_unicode_utf8_acceptRanges), ("strata/bits.shapes", laid_strata_bits_shapes), ("unicode/utf8.first", laid_unicode_utf8_first)], narrowed := true }
def BitsGivenUptoSaid : Prop := bitsGivenUptoRow.holds Tryd.pinned (OpenSpec.upto bitsGivenSpec)

/-- 'stratalaw01.BitsOneForm', WHERE WHAT IT READS IS OF BULK AT MOST 1048576: true; the input reads as it did. -/
def bitsOneFormUptoRow : OpenClaim := { program := "ytnanepgcaefhcaadoor", sum := "1f4a4989dfb285e33931173c290109b9046cbd21caa2b90aac4f8d36d9aec41f", func := "strata/stratalaw01.BitsOneForm", spec := "bitsOneForm", inPlace := ["internal/bytealg.CountString", "internal/bytealg.IndexByteString", "internal/bytealg.IndexString", "internal/abi.NoEscape", "internal/bytealg.MakeNoZero"], unfollowed := true, recurses := true, named := ["strata/bits.shapes", "internal/bytealg.MaxLen", "unicode/utf8.first", "unicode/utf8.acceptRanges"], apart := false, laid := [("unicode/utf8.acceptRanges", laid_unicode_utf8_acceptRanges), ("strata/bits.shapes", laid_strata_bits_shapes), ("unicode/utf8.first", laid_unicode_utf8_first)], narrowed := true }
def BitsOneFormUptoSaid : Prop := bitsOneFormUptoRow.holds Tryd.pinned (OpenSpec.upto bitsOneFormSpec)

end Rows
end Go.Proofs.YtnanepgcaefhcaaDoor
