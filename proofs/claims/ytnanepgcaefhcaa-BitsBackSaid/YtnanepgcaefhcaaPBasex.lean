-- Written by the kit's print.py, called by xprint.py (a helper of this repo); some functions are taken from texts of this seat that were proved by hand.
import Derived.Test.YtnanepgcaefhcaaPBasex0
import Derived.Test.YtnanepgcaefhcaaPBasex1
import Derived.Test.YtnanepgcaefhcaaPBasex2
import Derived.Test.YtnanepgcaefhcaaPBasex3
namespace Go.Proofs.Ytnanepgcaefhcaa.PBase
open Go.RowKit Go.Proofs.Ytnanepgcaefhcaa.HUv Go.Proofs.YtnanepgcaefhcaaW.PrintWords Go.Proofs.YtnanepgcaefhcaaW.PrintLast Go.Proofs.YtnanepgcaefhcaaW.PrintMore
attribute [local go_sem] max2_int min2_int max_two min_two max_three min_three max_four min_four   -- for this text's walks alone
set_option linter.unusedVariables false
set_option linter.unusedSimpArgs false

end Go.Proofs.Ytnanepgcaefhcaa.PBase
