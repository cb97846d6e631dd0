/- What is proved here: each Go function that this text names answers as the Lean function of its name says, whenever that one answers; and a law's row follows from its plain statement. Laid by a program of the session over the kit's print. -/
import Derived.Test.YtbjepiglagnpjaaProg
import Derived.Below
import Derived.Deep.Draws
import Derived.Deep.AppendLies
import Derived.Maps.AppendAt
import Derived.OwnWalk
import Derived.Laws.BytesArg
import Derived.Laws.MakeOwn
import Derived.Laws.OwnMore
import Derived.Deep.OwnRows
import Derived.Tactics
import Derived.Lib.ConvBytes
import Derived.Laws.Slices
import Derived.WalkKit
import Derived.KernelRfl
import Derived.RowKit3
import Derived.Deep.LoopGhost
import Derived.Deep.QuietTactic
import Derived.BigQuiet
import Derived.WideLaws
import Derived.Deep.DeepCutAuto
import Derived.Deep.CutBlock
import Derived.Deep.RegionHeld3
import Derived.Laws.Rows
import Derived.Lib.AppendStr
import Derived.ArgAppend
import Derived.Laws.IdiomCopy
import Derived.OrdersHeld
import Derived.Laws.BitsLemmas
import Derived.RowKit
import Derived.Test.YtbjepiglagnpjaaWWords
import Derived.Test.YtbjepiglagnpjaaWLast
import Derived.Test.YtbjepiglagnpjaaWTab
import Derived.Test.YtbjepiglagnpjaaWFour
import Derived.Test.YtbjepiglagnpjaaWQPut
import Derived.Test.YtbjepiglagnpjaaWApart
import Derived.Test.YtbjepiglagnpjaaWArr
import Derived.Test.YtbjepiglagnpjaaWZeros
import Derived.Test.YtbjepiglagnpjaaWFoot
import Derived.Test.YtbjepiglagnpjaaWKept
import Derived.Test.YtbjepiglagnpjaaWShare
import Derived.Test.YtbjepiglagnpjaaWN
import Derived.Test.YtbjepiglagnpjaaWFootNe
import Derived.Test.YtbjepiglagnpjaaWAt
import Derived.Test.YtbjepiglagnpjaaWEqStruct
import Derived.Test.YtbjepiglagnpjaaWRepsOne
import Derived.Test.YtbjepiglagnpjaaWInv
import Derived.Test.YtbjepiglagnpjaaWInvWords
import Derived.Test.YtbjepiglagnpjaaWGuard
import Derived.Test.YtbjepiglagnpjaaWNEv
import Derived.Test.YtbjepiglagnpjaaWMore
namespace Go.Proofs.Ytbjepiglagnpjaa.P
open Go.RowKit Go.Proofs.YtbjepiglagnpjaaW.PrintWords Go.Proofs.YtbjepiglagnpjaaW.PrintLast Go.Proofs.YtbjepiglagnpjaaW.PrintMore
attribute [local go_sem] max2_int min2_int max_two min_two max_three min_three max_four min_four   -- for this text's walks alone
set_option linter.unusedVariables false
set_option linter.unusedSimpArgs false



def errW : Option Int → Value
  | none => .nilIface
  | some c => .iface 0 (.int .i64 c)
theorem errW_none : errW none = .nilIface := rfl
theorem errW_some (c : Int) : errW (some c) = .iface 0 (.int .i64 c) := rfl

theorem info2 : (Try.prog.info? 2).map (fun i => (i.zero, i.size, i.bytes)) = some (some (.int .i64 0), 1, 8) := by kernel_rfl
-- the values' own types

end Go.Proofs.Ytbjepiglagnpjaa.P
