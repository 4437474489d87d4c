/-
  DERIVED. GIVEN WITH THE SEED: THE CARDS: each row of YtjggkopmhhhiiaaGreatDoorRows.lean that lists a variable, with what it lists TIED to the program's text (the seventh form; the later family's looks); each row that meets fmt, with fmt's text TOLD by the authors' own Lean function (tested against real Go, not proved from fmt's source: count such statements apart). THE CARD IS WHAT COUNTS. Prove the row's statement (the work); the ties are given (YtjggkopmhhhiiaaGreatDoorTie.lean); close each card by the builder's one call (the guide's Derived/Test/ToyasCard.lean, 'card_holds'). Laid BY PROGRAM, IN A SANDBOX (cutbox-door.mjs). By AI agents, Wed Nov 11 2026. No macro, syntax, notation, axiom, sorry.
-/
import Derived.Test.YtjggkopmhhhiiaaGreatDoorRows
import GoSem.ClaimSeven
namespace Go.Proofs.YtjggkopmhhhiiaaGreatDoor
namespace Rows

/-- THE TIED CARD OF 'stratalaw11.RedoUnmade'. -/
def redoUnmadeCard : Claim7 := { stood := { row := redoUnmadeRow, standIns := [], harness := (true, "ae39a5a7409570a6545724b1f42a8aaa39d69f523bb5ace63616089b85365b62"), looks := true }, kinds := [], alts := [], goes := true, laidByText := true, laidKinds := [.data, .data, .data, .data], laidTests := true, laidLooks := .later }
def RedoUnmadeCardSaid : Prop := Claim7.holds Tryz.pinned (.plain (OpenSpec.ofChange redoUnmadeSpec)) redoUnmadeCard

/-- THE TIED CARD OF 'stratalaw11.RedoNil'. -/
def redoNilCard : Claim7 := { stood := { row := redoNilRow, standIns := [], harness := (true, "ae39a5a7409570a6545724b1f42a8aaa39d69f523bb5ace63616089b85365b62"), looks := true }, kinds := [], alts := [], goes := true, laidByText := true, laidKinds := [.data, .data, .data, .data, .sentinel, .sentinel, .data, .pinned], laidTests := true, laidLooks := .later }
def RedoNilCardSaid : Prop := Claim7.holds Tryz.pinned (.plain (OpenSpec.ofChange redoNilSpec)) redoNilCard

/-- THE TIED CARD OF 'stratalaw12.ImageNames'. -/
def imageNamesCard : Claim7 := { stood := { row := imageNamesRow, standIns := [], harness := (true, "ae39a5a7409570a6545724b1f42a8aaa39d69f523bb5ace63616089b85365b62"), looks := true }, kinds := [], alts := [], goes := true, laidByText := true, laidKinds := [.data, .data, .data, .sentinel, .sentinel, .data], laidTests := true, laidLooks := .later }
def ImageNamesCardSaid : Prop := Claim7.holds Tryz.pinned (.plain (OpenSpec.ofChange imageNamesSpec)) imageNamesCard

/-- THE TIED CARD OF 'stratalaw13.ReviveUnmade'. -/
def reviveUnmadeCard : Claim7 := { stood := { row := reviveUnmadeRow, standIns := [], harness := (true, "ae39a5a7409570a6545724b1f42a8aaa39d69f523bb5ace63616089b85365b62"), looks := true }, kinds := [], alts := [], goes := true, laidByText := true, laidKinds := [.data, .data, .data, .data, .sentinel, .sentinel, .data, .pinned], laidTests := true, laidLooks := .later }
def ReviveUnmadeCardSaid : Prop := Claim7.holds Tryz.pinned (.plain (OpenSpec.ofChange reviveUnmadeSpec)) reviveUnmadeCard

/-- THE SECOND FORM's CARD OF 'stratalaw11.RedoUnmade'. -/
def redoUnmadeUptoCard : Claim7 := { stood := { row := redoUnmadeUptoRow, standIns := [], harness := (true, "ae39a5a7409570a6545724b1f42a8aaa39d69f523bb5ace63616089b85365b62"), looks := true }, kinds := [], alts := [], goes := true, laidByText := true, laidKinds := [.data, .data, .data, .data], laidTests := true, laidLooks := .later }
def RedoUnmadeUptoCardSaid : Prop := Claim7.holds Tryz.pinned (.plain (OpenSpec.upto redoUnmadeSpec)) redoUnmadeUptoCard

/-- THE SECOND FORM's CARD OF 'stratalaw11.RedoNil'. -/
def redoNilUptoCard : Claim7 := { stood := { row := redoNilUptoRow, standIns := [], harness := (true, "ae39a5a7409570a6545724b1f42a8aaa39d69f523bb5ace63616089b85365b62"), looks := true }, kinds := [], alts := [], goes := true, laidByText := true, laidKinds := [.data, .data, .data, .data, .sentinel, .sentinel, .data, .pinned], laidTests := true, laidLooks := .later }
def RedoNilUptoCardSaid : Prop := Claim7.holds Tryz.pinned (.plain (OpenSpec.upto redoNilSpec)) redoNilUptoCard

/-- THE SECOND FORM's CARD OF 'stratalaw12.ImageNames'. -/
def imageNamesUptoCard : Claim7 := { stood := { row := imageNamesUptoRow, standIns := [], harness := (true, "ae39a5a7409570a6545724b1f42a8aaa39d69f523bb5ace63616089b85365b62"), looks := true }, kinds := [], alts := [], goes := true, laidByText := true, laidKinds := [.data, .data, .data, .sentinel, .sentinel, .data], laidTests := true, laidLooks := .later }
def ImageNamesUptoCardSaid : Prop := Claim7.holds Tryz.pinned (.plain (OpenSpec.upto imageNamesSpec)) imageNamesUptoCard

/-- THE SECOND FORM's CARD OF 'stratalaw13.ReviveUnmade'. -/
def reviveUnmadeUptoCard : Claim7 := { stood := { row := reviveUnmadeUptoRow, standIns := [], harness := (true, "ae39a5a7409570a6545724b1f42a8aaa39d69f523bb5ace63616089b85365b62"), looks := true }, kinds := [], alts := [], goes := true, laidByText := true, laidKinds := [.data, .data, .data, .data, .sentinel, .sentinel, .data, .pinned], laidTests := true, laidLooks := .later }
def ReviveUnmadeUptoCardSaid : Prop := Claim7.holds Tryz.pinned (.plain (OpenSpec.upto reviveUnmadeSpec)) reviveUnmadeUptoCard
end Rows
end Go.Proofs.YtjggkopmhhhiiaaGreatDoor
