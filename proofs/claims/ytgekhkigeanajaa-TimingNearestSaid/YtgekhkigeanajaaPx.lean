/- What is proved here: each Go function that this text names answers as the Lean function of its name says, whenever that one answers; and a law's row follows from its plain statement. Laid by a program of the session over the kit's print. -/
import Derived.Test.YtgekhkigeanajaaPx0
import Derived.Test.YtgekhkigeanajaaPx1
import Derived.Test.YtgekhkigeanajaaPx2
import Derived.Test.YtgekhkigeanajaaPx3
import Derived.Test.YtgekhkigeanajaaPx4
import Derived.Test.YtgekhkigeanajaaPx5
import Derived.Test.YtgekhkigeanajaaPx6
import Derived.Test.YtgekhkigeanajaaPx7
namespace Go.Proofs.Ytgekhkigeanajaa.P
open Go.RowKit Go.Proofs.YtgekhkigeanajaaW.PrintWords Go.Proofs.YtgekhkigeanajaaW.PrintLast Go.Proofs.YtgekhkigeanajaaW.PrintMore
attribute [local go_sem] max2_int min2_int max_two min_two max_three min_three max_four min_four   -- for this text's walks alone
set_option linter.unusedVariables false
set_option linter.unusedSimpArgs false

end Go.Proofs.Ytgekhkigeanajaa.P
