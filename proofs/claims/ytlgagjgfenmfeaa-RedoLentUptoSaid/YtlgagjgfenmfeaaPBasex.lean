-- Written by the kit's print.py, called by xprint.py (a helper of this repo); some functions are taken from texts of this seat that were proved by hand.
import Derived.Test.YtlgagjgfenmfeaaPBasex0
import Derived.Test.YtlgagjgfenmfeaaPBasex1
import Derived.Test.YtlgagjgfenmfeaaPBasex2
import Derived.Test.YtlgagjgfenmfeaaPBasex3
namespace Go.Proofs.Ytlgagjgfenmfeaa.PBase
open Go.RowKit Go.Proofs.Ytlgagjgfenmfeaa.HUv Go.Proofs.YtlgagjgfenmfeaaW.PrintWords Go.Proofs.YtlgagjgfenmfeaaW.PrintLast Go.Proofs.YtlgagjgfenmfeaaW.PrintMore
attribute [local go_sem] max2_int min2_int max_two min_two max_three min_three max_four min_four   -- for this text's walks alone
set_option linter.unusedVariables false
set_option linter.unusedSimpArgs false

end Go.Proofs.Ytlgagjgfenmfeaa.PBase
