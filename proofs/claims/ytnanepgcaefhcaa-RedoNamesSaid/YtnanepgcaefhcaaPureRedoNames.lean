/- RedoNames returns true: each error, limit and kind of chapter 11 has its number. No condition. -/
import Derived.Test.YtnanepgcaefhcaaPRedoNamesx1
namespace Go.Proofs.Ytnanepgcaefhcaa.Pure
open Go.RowKit Go.Proofs.Ytnanepgcaefhcaa.PRedoNames Go.Proofs.YtnanepgcaefhcaaW.PrintWords Go.Proofs.YtnanepgcaefhcaaW.PrintLast

theorem RedoNames : stratalaw11_RedoNames.Pure := ⟨8, by rfl⟩

end Go.Proofs.Ytnanepgcaefhcaa.Pure
