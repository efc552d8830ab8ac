-- Printed by the session's gprint.sh with the kit's print.py. Lean checks it.
import Derived.Test.YtleppmjconljfaaDoorPAx0
import Derived.Test.YtleppmjconljfaaDoorPAx1
import Derived.Test.YtleppmjconljfaaDoorPAx2
import Derived.Test.YtleppmjconljfaaDoorPAx3
import Derived.Test.YtleppmjconljfaaDoorPAx4
namespace Go.Proofs.YtleppmjconljfaaDoor.PA
open Go.RowKit Go.Proofs.YtleppmjconljfaaDoorW.PrintWords Go.Proofs.YtleppmjconljfaaDoorW.PrintLast Go.Proofs.YtleppmjconljfaaDoorW.PrintMore
attribute [local go_sem] max2_int min2_int max_two min_two max_three min_three max_four min_four   -- for this text's walks alone
set_option linter.unusedVariables false
set_option linter.unusedSimpArgs false

end Go.Proofs.YtleppmjconljfaaDoor.PA
