/- ReviveNames returns true: the errors, kinds and the number of workers of chapter 13 have their numbers. No condition. -/
import Derived.Test.YtnanepgcaefhcaaPReviveNamesx1
namespace Go.Proofs.Ytnanepgcaefhcaa.Pure
open Go.RowKit Go.Proofs.Ytnanepgcaefhcaa.PReviveNames Go.Proofs.YtnanepgcaefhcaaW.PrintWords Go.Proofs.YtnanepgcaefhcaaW.PrintLast

theorem ReviveNames : stratalaw13_ReviveNames.Pure := by
  unfold stratalaw13_ReviveNames.Pure
  rfl

end Go.Proofs.Ytnanepgcaefhcaa.Pure
