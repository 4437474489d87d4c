-- Written by the kit's print.py, called by xprint.py (a helper of this repo); some functions are taken from texts of this seat that were proved by hand.
import Derived.Test.YtbekgkikgcmmaaaDoorPBasex0
import Derived.Test.YtbekgkikgcmmaaaDoorPBasex1
import Derived.Test.YtbekgkikgcmmaaaDoorPBasex2
import Derived.Test.YtbekgkikgcmmaaaDoorPBasex3
namespace Go.Proofs.YtbekgkikgcmmaaaDoor.PBase
open Go.RowKit Go.Proofs.YtbekgkikgcmmaaaDoor.HUv Go.Proofs.YtbekgkikgcmmaaaDoorW.PrintWords Go.Proofs.YtbekgkikgcmmaaaDoorW.PrintLast Go.Proofs.YtbekgkikgcmmaaaDoorW.PrintMore
attribute [local go_sem] max2_int min2_int max_two min_two max_three min_three max_four min_four   -- for this text's walks alone
set_option linter.unusedVariables false
set_option linter.unusedSimpArgs false

end Go.Proofs.YtbekgkikgcmmaaaDoor.PBase
