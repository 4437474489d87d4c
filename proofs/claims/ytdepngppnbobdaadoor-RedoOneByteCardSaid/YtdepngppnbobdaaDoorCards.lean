/-
  DERIVED. GIVEN WITH THE SEED: THE CARDS: each row of YtdepngppnbobdaaDoorRows.lean that lists a variable, with what it lists TIED to the program's text (the seventh form; the later family's looks); each row that meets fmt, with fmt's text TOLD by the authors' own Lean function (tested against real Go, not proved from fmt's source: count such statements apart). THE CARD IS WHAT COUNTS. Prove the row's statement (the work); the ties are given (YtdepngppnbobdaaDoorTie.lean); close each card by the builder's one call (the guide's Derived/Test/ToyasCard.lean, 'card_holds'). Laid BY PROGRAM, IN A SANDBOX (cutbox-door.mjs). By AI agents, Wed Nov 11 2026. No macro, syntax, notation, axiom, sorry.
-/
import Derived.Test.YtdepngppnbobdaaDoorRows
import GoSem.ClaimSeven
namespace Go.Proofs.YtdepngppnbobdaaDoor
namespace Rows

/-- THE TIED CARD OF 'stratalaw11.RedoFrames'. -/
def redoFramesCard : Claim7 := { stood := { row := redoFramesRow, standIns := [], harness := (true, "57c5ab31dad065a415b46aec256161088e820aea10c82c7509177351f2f0b9fa"), looks := true }, kinds := [], alts := [], laidByText := true, laidKinds := [.data], laidTests := true, laidLooks := .later }
def RedoFramesCardSaid : Prop := Claim7.holds Tryd.pinned (.plain (OpenSpec.ofChange redoFramesSpec)) redoFramesCard

/-- THE TIED CARD OF 'stratalaw11.RedoOneByte'. -/
def redoOneByteCard : Claim7 := { stood := { row := redoOneByteRow, standIns := [], harness := (true, "57c5ab31dad065a415b46aec256161088e820aea10c82c7509177351f2f0b9fa"), looks := true }, kinds := [], alts := [], laidByText := true, laidKinds := [.data], laidTests := true, laidLooks := .later }
def RedoOneByteCardSaid : Prop := Claim7.holds Tryd.pinned (.plain (OpenSpec.ofChange redoOneByteSpec)) redoOneByteCard

/-- THE TIED CARD OF 'stratalaw12.ImageManifest'. -/
def imageManifestCard : Claim7 := { stood := { row := imageManifestRow, standIns := [], harness := (true, "57c5ab31dad065a415b46aec256161088e820aea10c82c7509177351f2f0b9fa"), looks := true }, kinds := [], alts := [], laidByText := true, laidKinds := [.data], laidTests := true, laidLooks := .later }
def ImageManifestCardSaid : Prop := Claim7.holds Tryd.pinned (.plain (OpenSpec.ofChange imageManifestSpec)) imageManifestCard

/-- THE TIED CARD OF 'stratalaw12.ImageDelta'. -/
def imageDeltaCard : Claim7 := { stood := { row := imageDeltaRow, standIns := [], harness := (true, "57c5ab31dad065a415b46aec256161088e820aea10c82c7509177351f2f0b9fa"), looks := true }, kinds := [], alts := [], laidByText := true, laidKinds := [.data], laidTests := true, laidLooks := .later }
def ImageDeltaCardSaid : Prop := Claim7.holds Tryd.pinned (.plain (OpenSpec.ofChange imageDeltaSpec)) imageDeltaCard

/-- THE TIED CARD OF 'stratalaw12.ImageData'. -/
def imageDataCard : Claim7 := { stood := { row := imageDataRow, standIns := [], harness := (true, "57c5ab31dad065a415b46aec256161088e820aea10c82c7509177351f2f0b9fa"), looks := true }, kinds := [], alts := [], laidByText := true, laidKinds := [.data], laidTests := true, laidLooks := .later }
def ImageDataCardSaid : Prop := Claim7.holds Tryd.pinned (.plain (OpenSpec.ofChange imageDataSpec)) imageDataCard

/-- THE TIED CARD OF 'stratalaw12.ImageTells'. -/
def imageTellsCard : Claim7 := { stood := { row := imageTellsRow, standIns := [], harness := (true, "57c5ab31dad065a415b46aec256161088e820aea10c82c7509177351f2f0b9fa"), looks := true }, kinds := [], alts := [], laidByText := true, laidKinds := [.data], laidTests := true, laidLooks := .later }
def ImageTellsCardSaid : Prop := Claim7.holds Tryd.pinned (.plain (OpenSpec.ofChange imageTellsSpec)) imageTellsCard

/-- THE SECOND FORM's CARD OF 'stratalaw11.RedoFrames'. -/
def redoFramesUptoCard : Claim7 := { stood := { row := redoFramesUptoRow, standIns := [], harness := (true, "57c5ab31dad065a415b46aec256161088e820aea10c82c7509177351f2f0b9fa"), looks := true }, kinds := [], alts := [], laidByText := true, laidKinds := [.data], laidTests := true, laidLooks := .later }
def RedoFramesUptoCardSaid : Prop := Claim7.holds Tryd.pinned (.plain (OpenSpec.upto redoFramesSpec)) redoFramesUptoCard

/-- THE SECOND FORM's CARD OF 'stratalaw11.RedoOneByte'. -/
def redoOneByteUptoCard : Claim7 := { stood := { row := redoOneByteUptoRow, standIns := [], harness := (true, "57c5ab31dad065a415b46aec256161088e820aea10c82c7509177351f2f0b9fa"), looks := true }, kinds := [], alts := [], laidByText := true, laidKinds := [.data], laidTests := true, laidLooks := .later }
def RedoOneByteUptoCardSaid : Prop := Claim7.holds Tryd.pinned (.plain (OpenSpec.upto redoOneByteSpec)) redoOneByteUptoCard

/-- THE SECOND FORM's CARD OF 'stratalaw12.ImageManifest'. -/
def imageManifestUptoCard : Claim7 := { stood := { row := imageManifestUptoRow, standIns := [], harness := (true, "57c5ab31dad065a415b46aec256161088e820aea10c82c7509177351f2f0b9fa"), looks := true }, kinds := [], alts := [], laidByText := true, laidKinds := [.data], laidTests := true, laidLooks := .later }
def ImageManifestUptoCardSaid : Prop := Claim7.holds Tryd.pinned (.plain (OpenSpec.upto imageManifestSpec)) imageManifestUptoCard

/-- THE SECOND FORM's CARD OF 'stratalaw12.ImageDelta'. -/
def imageDeltaUptoCard : Claim7 := { stood := { row := imageDeltaUptoRow, standIns := [], harness := (true, "57c5ab31dad065a415b46aec256161088e820aea10c82c7509177351f2f0b9fa"), looks := true }, kinds := [], alts := [], laidByText := true, laidKinds := [.data], laidTests := true, laidLooks := .later }
def ImageDeltaUptoCardSaid : Prop := Claim7.holds Tryd.pinned (.plain (OpenSpec.upto imageDeltaSpec)) imageDeltaUptoCard

/-- THE SECOND FORM's CARD OF 'stratalaw12.ImageData'. -/
def imageDataUptoCard : Claim7 := { stood := { row := imageDataUptoRow, standIns := [], harness := (true, "57c5ab31dad065a415b46aec256161088e820aea10c82c7509177351f2f0b9fa"), looks := true }, kinds := [], alts := [], laidByText := true, laidKinds := [.data], laidTests := true, laidLooks := .later }
def ImageDataUptoCardSaid : Prop := Claim7.holds Tryd.pinned (.plain (OpenSpec.upto imageDataSpec)) imageDataUptoCard

/-- THE SECOND FORM's CARD OF 'stratalaw12.ImageTells'. -/
def imageTellsUptoCard : Claim7 := { stood := { row := imageTellsUptoRow, standIns := [], harness := (true, "57c5ab31dad065a415b46aec256161088e820aea10c82c7509177351f2f0b9fa"), looks := true }, kinds := [], alts := [], laidByText := true, laidKinds := [.data], laidTests := true, laidLooks := .later }
def ImageTellsUptoCardSaid : Prop := Claim7.holds Tryd.pinned (.plain (OpenSpec.upto imageTellsSpec)) imageTellsUptoCard
end Rows
end Go.Proofs.YtdepngppnbobdaaDoor
