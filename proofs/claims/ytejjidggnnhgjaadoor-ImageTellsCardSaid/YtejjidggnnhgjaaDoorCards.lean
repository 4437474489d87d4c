/-
  DERIVED. GIVEN WITH THE SEED: THE CARDS: each row of YtejjidggnnhgjaaDoorRows.lean that lists a variable, with what it lists TIED to the program's text (the seventh form; the later family's looks); each row that meets fmt, with fmt's text TOLD by the authors' own Lean function (tested against real Go, not proved from fmt's source: count such statements apart). THE CARD IS WHAT COUNTS. Prove the row's statement (the work); the ties are given (YtejjidggnnhgjaaDoorTie.lean); close each card by the builder's one call (the guide's Derived/Test/ToyasCard.lean, 'card_holds'). Laid BY PROGRAM, IN A SANDBOX (cutbox-door.mjs). By AI agents, Wed Nov 11 2026. No macro, syntax, notation, axiom, sorry.
-/
import Derived.Test.YtejjidggnnhgjaaDoorRows
import GoSem.ClaimSeven
namespace Go.Proofs.YtejjidggnnhgjaaDoor
namespace Rows

/-- THE TIED CARD OF 'stratalaw12.ImageManifest'. -/
def imageManifestCard : Claim7 := { stood := { row := imageManifestRow, standIns := [], harness := (true, "aadcf2beec90149aa5afe932bfef4b95787b5983e73fbabcd3b535493d06d754"), looks := true }, kinds := [], alts := [], laidByText := true, laidKinds := [.data], laidTests := true, laidLooks := .later }
def ImageManifestCardSaid : Prop := Claim7.holds Tryd.pinned (.plain (OpenSpec.ofChange imageManifestSpec)) imageManifestCard

/-- THE TIED CARD OF 'stratalaw12.ImageDelta'. -/
def imageDeltaCard : Claim7 := { stood := { row := imageDeltaRow, standIns := [], harness := (true, "aadcf2beec90149aa5afe932bfef4b95787b5983e73fbabcd3b535493d06d754"), looks := true }, kinds := [], alts := [], laidByText := true, laidKinds := [.data], laidTests := true, laidLooks := .later }
def ImageDeltaCardSaid : Prop := Claim7.holds Tryd.pinned (.plain (OpenSpec.ofChange imageDeltaSpec)) imageDeltaCard

/-- THE TIED CARD OF 'stratalaw12.ImageData'. -/
def imageDataCard : Claim7 := { stood := { row := imageDataRow, standIns := [], harness := (true, "aadcf2beec90149aa5afe932bfef4b95787b5983e73fbabcd3b535493d06d754"), looks := true }, kinds := [], alts := [], laidByText := true, laidKinds := [.data], laidTests := true, laidLooks := .later }
def ImageDataCardSaid : Prop := Claim7.holds Tryd.pinned (.plain (OpenSpec.ofChange imageDataSpec)) imageDataCard

/-- THE TIED CARD OF 'stratalaw12.ImageTells'. -/
def imageTellsCard : Claim7 := { stood := { row := imageTellsRow, standIns := [], harness := (true, "aadcf2beec90149aa5afe932bfef4b95787b5983e73fbabcd3b535493d06d754"), looks := true }, kinds := [], alts := [], laidByText := true, laidKinds := [.data], laidTests := true, laidLooks := .later }
def ImageTellsCardSaid : Prop := Claim7.holds Tryd.pinned (.plain (OpenSpec.ofChange imageTellsSpec)) imageTellsCard

/-- THE SECOND FORM's CARD OF 'stratalaw12.ImageManifest'. -/
def imageManifestUptoCard : Claim7 := { stood := { row := imageManifestUptoRow, standIns := [], harness := (true, "aadcf2beec90149aa5afe932bfef4b95787b5983e73fbabcd3b535493d06d754"), looks := true }, kinds := [], alts := [], laidByText := true, laidKinds := [.data], laidTests := true, laidLooks := .later }
def ImageManifestUptoCardSaid : Prop := Claim7.holds Tryd.pinned (.plain (OpenSpec.upto imageManifestSpec)) imageManifestUptoCard

/-- THE SECOND FORM's CARD OF 'stratalaw12.ImageDelta'. -/
def imageDeltaUptoCard : Claim7 := { stood := { row := imageDeltaUptoRow, standIns := [], harness := (true, "aadcf2beec90149aa5afe932bfef4b95787b5983e73fbabcd3b535493d06d754"), looks := true }, kinds := [], alts := [], laidByText := true, laidKinds := [.data], laidTests := true, laidLooks := .later }
def ImageDeltaUptoCardSaid : Prop := Claim7.holds Tryd.pinned (.plain (OpenSpec.upto imageDeltaSpec)) imageDeltaUptoCard

/-- THE SECOND FORM's CARD OF 'stratalaw12.ImageData'. -/
def imageDataUptoCard : Claim7 := { stood := { row := imageDataUptoRow, standIns := [], harness := (true, "aadcf2beec90149aa5afe932bfef4b95787b5983e73fbabcd3b535493d06d754"), looks := true }, kinds := [], alts := [], laidByText := true, laidKinds := [.data], laidTests := true, laidLooks := .later }
def ImageDataUptoCardSaid : Prop := Claim7.holds Tryd.pinned (.plain (OpenSpec.upto imageDataSpec)) imageDataUptoCard

/-- THE SECOND FORM's CARD OF 'stratalaw12.ImageTells'. -/
def imageTellsUptoCard : Claim7 := { stood := { row := imageTellsUptoRow, standIns := [], harness := (true, "aadcf2beec90149aa5afe932bfef4b95787b5983e73fbabcd3b535493d06d754"), looks := true }, kinds := [], alts := [], laidByText := true, laidKinds := [.data], laidTests := true, laidLooks := .later }
def ImageTellsUptoCardSaid : Prop := Claim7.holds Tryd.pinned (.plain (OpenSpec.upto imageTellsSpec)) imageTellsUptoCard
end Rows
end Go.Proofs.YtejjidggnnhgjaaDoor
