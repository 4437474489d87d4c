/-
  DERIVED. GIVEN WITH THE SEED: THE CARDS: each row of YtbekgkikgcmmaaaDoorRows.lean that lists a variable, with what it lists TIED to the program's text (the seventh form; the later family's looks); each row that meets fmt, with fmt's text TOLD by the authors' own Lean function (tested against real Go, not proved from fmt's source: count such statements apart). THE CARD IS WHAT COUNTS. Prove the row's statement (the work); the ties are given (YtbekgkikgcmmaaaDoorTie.lean); close each card by the builder's one call (the guide's Derived/Test/ToyasCard.lean, 'card_holds'). Laid BY PROGRAM, IN A SANDBOX (cutbox-door.mjs). By AI agents, Wed Nov 11 2026. No macro, syntax, notation, axiom, sorry.
-/
import Derived.Test.YtbekgkikgcmmaaaDoorRows
import GoSem.ClaimSeven
namespace Go.Proofs.YtbekgkikgcmmaaaDoor
namespace Rows

/-- THE TIED CARD OF 'stratalaw01.BitsKeys'. -/
def bitsKeysCard : Claim7 := { stood := { row := bitsKeysRow, standIns := [], harness := (true, "285facdf3c7fc501669338fd178274c194bf7468b96f460a6d459f8a8b11260d"), looks := true }, kinds := [], alts := [], laidByText := true, laidKinds := [.data, .data, .pinned], laidTests := true, laidLooks := .later }
def BitsKeysCardSaid : Prop := Claim7.holds Tryd.pinned (.plain (OpenSpec.ofChange bitsKeysSpec)) bitsKeysCard

/-- THE TIED CARD OF 'stratalaw01.BitsOrder'. -/
def bitsOrderCard : Claim7 := { stood := { row := bitsOrderRow, standIns := [], harness := (true, "285facdf3c7fc501669338fd178274c194bf7468b96f460a6d459f8a8b11260d"), looks := true }, kinds := [], alts := [], laidByText := true, laidKinds := [.data, .data, .pinned], laidTests := true, laidLooks := .later }
def BitsOrderCardSaid : Prop := Claim7.holds Tryd.pinned (.plain (OpenSpec.ofChange bitsOrderSpec)) bitsOrderCard

/-- THE TIED CARD OF 'stratalaw01.BitsTexts'. -/
def bitsTextsCard : Claim7 := { stood := { row := bitsTextsRow, standIns := [], harness := (true, "285facdf3c7fc501669338fd178274c194bf7468b96f460a6d459f8a8b11260d"), looks := true }, kinds := [], alts := [], laidByText := true, laidKinds := [.data, .pinned], laidTests := true, laidLooks := .later }
def BitsTextsCardSaid : Prop := Claim7.holds Tryd.pinned (.plain (OpenSpec.ofChange bitsTextsSpec)) bitsTextsCard

/-- THE TIED CARD OF 'stratalaw01.BitsGiven'. -/
def bitsGivenCard : Claim7 := { stood := { row := bitsGivenRow, standIns := [], harness := (true, "285facdf3c7fc501669338fd178274c194bf7468b96f460a6d459f8a8b11260d"), looks := true }, kinds := [], alts := [], laidByText := true, laidKinds := [.data, .data, .pinned], laidTests := true, laidLooks := .later }
def BitsGivenCardSaid : Prop := Claim7.holds Tryd.pinned (.plain (OpenSpec.ofChange bitsGivenSpec)) bitsGivenCard

/-- THE TIED CARD OF 'stratalaw01.BitsOneForm'. -/
def bitsOneFormCard : Claim7 := { stood := { row := bitsOneFormRow, standIns := [], harness := (true, "285facdf3c7fc501669338fd178274c194bf7468b96f460a6d459f8a8b11260d"), looks := true }, kinds := [], alts := [], laidByText := true, laidKinds := [.data, .data, .pinned], laidTests := true, laidLooks := .later }
def BitsOneFormCardSaid : Prop := Claim7.holds Tryd.pinned (.plain (OpenSpec.ofChange bitsOneFormSpec)) bitsOneFormCard

/-- THE SECOND FORM's CARD OF 'stratalaw01.BitsKeys'. -/
def bitsKeysUptoCard : Claim7 := { stood := { row := bitsKeysUptoRow, standIns := [], harness := (true, "285facdf3c7fc501669338fd178274c194bf7468b96f460a6d459f8a8b11260d"), looks := true }, kinds := [], alts := [], laidByText := true, laidKinds := [.data, .data, .pinned], laidTests := true, laidLooks := .later }
def BitsKeysUptoCardSaid : Prop := Claim7.holds Tryd.pinned (.plain (OpenSpec.upto bitsKeysSpec)) bitsKeysUptoCard

/-- THE SECOND FORM's CARD OF 'stratalaw01.BitsOrder'. -/
def bitsOrderUptoCard : Claim7 := { stood := { row := bitsOrderUptoRow, standIns := [], harness := (true, "285facdf3c7fc501669338fd178274c194bf7468b96f460a6d459f8a8b11260d"), looks := true }, kinds := [], alts := [], laidByText := true, laidKinds := [.data, .data, .pinned], laidTests := true, laidLooks := .later }
def BitsOrderUptoCardSaid : Prop := Claim7.holds Tryd.pinned (.plain (OpenSpec.upto bitsOrderSpec)) bitsOrderUptoCard

/-- THE SECOND FORM's CARD OF 'stratalaw01.BitsTexts'. -/
def bitsTextsUptoCard : Claim7 := { stood := { row := bitsTextsUptoRow, standIns := [], harness := (true, "285facdf3c7fc501669338fd178274c194bf7468b96f460a6d459f8a8b11260d"), looks := true }, kinds := [], alts := [], laidByText := true, laidKinds := [.data, .pinned], laidTests := true, laidLooks := .later }
def BitsTextsUptoCardSaid : Prop := Claim7.holds Tryd.pinned (.plain (OpenSpec.upto bitsTextsSpec)) bitsTextsUptoCard

/-- THE SECOND FORM's CARD OF 'stratalaw01.BitsGiven'. -/
def bitsGivenUptoCard : Claim7 := { stood := { row := bitsGivenUptoRow, standIns := [], harness := (true, "285facdf3c7fc501669338fd178274c194bf7468b96f460a6d459f8a8b11260d"), looks := true }, kinds := [], alts := [], laidByText := true, laidKinds := [.data, .data, .pinned], laidTests := true, laidLooks := .later }
def BitsGivenUptoCardSaid : Prop := Claim7.holds Tryd.pinned (.plain (OpenSpec.upto bitsGivenSpec)) bitsGivenUptoCard

/-- THE SECOND FORM's CARD OF 'stratalaw01.BitsOneForm'. -/
def bitsOneFormUptoCard : Claim7 := { stood := { row := bitsOneFormUptoRow, standIns := [], harness := (true, "285facdf3c7fc501669338fd178274c194bf7468b96f460a6d459f8a8b11260d"), looks := true }, kinds := [], alts := [], laidByText := true, laidKinds := [.data, .data, .pinned], laidTests := true, laidLooks := .later }
def BitsOneFormUptoCardSaid : Prop := Claim7.holds Tryd.pinned (.plain (OpenSpec.upto bitsOneFormSpec)) bitsOneFormUptoCard
end Rows
end Go.Proofs.YtbekgkikgcmmaaaDoor
