-- Written by the kit's print.py, called by xprint.py (a helper of this repo); some functions are taken from texts of this seat that were proved by hand.
import Derived.Test.YtdepngppnbobdaaPBasex0
import Derived.Test.YtdepngppnbobdaaPBasex1
import Derived.Test.YtdepngppnbobdaaPBasex2
import Derived.Test.YtdepngppnbobdaaPBasex3
namespace Go.Proofs.Ytdepngppnbobdaa.PBase
open Go.RowKit Go.Proofs.Ytdepngppnbobdaa.HUv Go.Proofs.YtdepngppnbobdaaW.PrintWords Go.Proofs.YtdepngppnbobdaaW.PrintLast Go.Proofs.YtdepngppnbobdaaW.PrintMore
attribute [local go_sem] max2_int min2_int max_two min_two max_three min_three max_four min_four   -- for this text's walks alone
set_option linter.unusedVariables false
set_option linter.unusedSimpArgs false

end Go.Proofs.Ytdepngppnbobdaa.PBase
