/- What is proved here: each Go function that this text names answers as the Lean function of its name says, whenever that one answers; and a law's row follows from its plain statement. Laid by a program of the session over the kit's print. -/
import Derived.Test.YtepeihlhokpjjaaPx0
import Derived.Test.YtepeihlhokpjjaaPx1
import Derived.Test.YtepeihlhokpjjaaPx2
import Derived.Test.YtepeihlhokpjjaaPx3
import Derived.Test.YtepeihlhokpjjaaPx4
import Derived.Test.YtepeihlhokpjjaaPx5
import Derived.Test.YtepeihlhokpjjaaPx6
import Derived.Test.YtepeihlhokpjjaaPx7
namespace Go.Proofs.Ytepeihlhokpjjaa.P
open Go.RowKit Go.Proofs.YtepeihlhokpjjaaW.PrintWords Go.Proofs.YtepeihlhokpjjaaW.PrintLast Go.Proofs.YtepeihlhokpjjaaW.PrintMore
attribute [local go_sem] max2_int min2_int max_two min_two max_three min_three max_four min_four   -- for this text's walks alone
set_option linter.unusedVariables false
set_option linter.unusedSimpArgs false

end Go.Proofs.Ytepeihlhokpjjaa.P
